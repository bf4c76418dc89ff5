/- Rows.StoreRefusesSaid -/
import Derived.Test.YtpmmiljakbojaaaGreatRF7
import Derived.Test.YtpmmiljakbojaaaGreatRF8
import Derived.Deep.RegionHeld3
import Derived.Deep.RegionLaw
namespace Go.Proofs.YtpmmiljakbojaaaGreat
open Go.RowKit
set_option linter.unusedVariables false
set_option maxHeartbeats 64000000
set_option maxRecDepth 100000
def dgv (s k j:Nat):Value:=if 6 - k < j then .int .u8 ((48+s / 10 ^ (6 - j) % 10:Nat):Int) else .int .u8 0
def nmArr (s k:Nat):Array Value:=#[.int .u8 115,dgv s k 1,dgv s k 2,dgv s k 3,dgv s k 4,dgv s k 5,dgv s k 6]
theorem nmArr_step {s k:Nat} (h:k < 6):(nmArr s k).setIfInBounds (6 - k) (.int .u8 ((48+s / 10 ^ k % 10:Nat):Int))=nmArr s (k+1):=by
 rcases k with _ | _ | _ | _ | _ | _ | k
 ·rfl
 ·rfl
 ·rfl
 ·rfl
 ·rfl
 ·rfl
 ·omega
theorem nmArr_at {s k:Nat} (h:k < 6):(nmArr s k)[6 - k]?=some (.int .u8 0):=by
 rcases k with _ | _ | _ | _ | _ | _ | k
 ·rfl
 ·rfl
 ·rfl
 ·rfl
 ·rfl
 ·rfl
 ·omega
def nmBytes (s:Nat):List UInt8:=[115,dig s 5,dig s 4,dig s 3,dig s 2,dig s 1,dig s 0]
theorem dig_val (s k:Nat):((48+s / 10 ^ k % 10:Nat):Int)=((dig s k).toNat:Int):=by
 unfold dig
 have:s / 10 ^ k % 10 < 10:=Nat.mod_lt _ (by omega)
 simp;omega
theorem nmArr_full (s:Nat):(nmArr s 6).toList=u8s (nmBytes s):=by
 unfold nmArr nmBytes u8s dgv
 simp only [List.map_cons,List.map_nil]
 simp only [Nat.sub_self,Nat.reduceSub,Nat.lt_add_one,Nat.reduceLT,if_true,dig_val]
 rfl
section
variable {F0:List Nat} {w0 w:World} {R:List Asrt}
def NameRel (s g:Nat) (F0:List Nat) (w0:World) (R:List Asrt) (q i:Value) (wr:World):Prop:=
 ∃ k:Nat,k≤6∧q=.int .i64 ((s / 10 ^ k:Nat):Int)∧i=.int .i64 ((6 - k:Nat):Int)∧In F0 w0 wr (Cells g (nmArr s k) 5::R)
theorem o_name (h:In F0 w0 w R) (s:Nat) (hs:s < 4611686018427387904):Calls Tryz.prog 48 #[.int .i64 s] w fun e w'=>e=.returned (.string (segName s))∧In F0 w0 w' R:=by
 by_cases hb:s < 1∨1000000≤s
 ·have HE:Hid (segName s=ByteArray.empty):=Lib.hid (by unfold segName;rw [if_pos hb])
  have H:=Lib.hid h
  clear h
  by_cases h1:s < 1
  ·have h1':(s:Int) < 1:=by omega
   clear hb h1
   go_enter Tryz.func48,Tryz.ntmps48
   go_wp2_with fail
   go_ret
   exact⟨by rw [HE.out];rfl,H.out⟩
  ·have h1':(1:Int)≤(s:Int):=by omega
   have h2':(1000000:Int)≤(s:Int):=by omega
   clear hb h1
   go_enter Tryz.func48,Tryz.ntmps48
   go_wp2_with fail
   go_ret
   exact⟨by rw [HE.out];rfl,H.out⟩
 ·have HE:Hid (segName s=⟨(nmBytes s).toArray⟩):=Lib.hid (by unfold segName;rw [if_neg hb];rfl)
  have h1':(1:Int)≤(s:Int):=by omega
  have h2':(s:Int) < 1000000:=by omega
  have hs2:s < 1000000:=by omega
  have h1:=h.cells #[.int .u8 115,.int .u8 0,.int .u8 0,.int .u8 0,.int .u8 0,.int .u8 0,.int .u8 0] 5
  have HS:Hid (NameRel s w.heap.size F0 w0 R (.int .i64 s) (.int .i64 6) (w.alloc (.cells #[.int .u8 115,.int .u8 0,.int .u8 0,.int .u8 0,.int .u8 0,.int .u8 0,.int .u8 0] 5))):=Lib.hid ⟨0,by omega,by simp,rfl,h1⟩
  have HS2:=Lib.hid hs2
  have q2:decide ((1000000:Int)≤(s:Int))=false:=by simp;omega
  have q1:decide ((s:Int) < 1)=false:=by simp;omega
  clear h h1 hb hs hs2 h1' h2'
  have hmk:∀ w,(Instr.makeSlice 41 (.int .i64 7) (.int .i64 7)).run Tryz.prog w=.ok (.slice (some ⟨w.heap.size,0,none⟩) 7 7) (w.alloc (.cells #[.int .u8 0,.int .u8 0,.int .u8 0,.int .u8 0,.int .u8 0,.int .u8 0,.int .u8 0] 5)):=fun _=>by kernel_rfl
  go_enter Tryz.func48,Tryz.ntmps48
  go_wp2_with fail
  go_loopw [0,4] (NameRel s w.heap.size F0 w0 R) (fun _ i _=>(intOf i).toNat)
  case atStart=>exact HS.out
  case round=>
   obtain⟨k,hk,rfl,rfl,ho⟩:=hrel
   clear HS
   by_cases hlt:k < 6
   ·have c0:wr.cell? ⟨w.heap.size,6 - k,none⟩=some (.int .u8 0):=cell_of (ho.block 0 rfl) (nmArr_at hlt)
    have f0:wr.frozen? ⟨w.heap.size,6 - k,none⟩=false:=free_of (ho.block 0 rfl)
    have h2:=ho.put 0 rfl (6 - k) (.int .u8 ((48+s / 10 ^ k % 10:Nat):Int))
    rw [nmArr_step hlt] at h2
    have HR:Hid (NameRel s w.heap.size F0 w0 R (.int .i64 (((s / 10 ^ k:Nat):Int) / 10)) (.int .i64 ((6 - k:Nat) - 1:Int)) (wr.setCell ⟨w.heap.size,6 - k,none⟩ (.int .u8 (48+((s / 10 ^ k:Nat):Int) % 10)))):=
     Lib.hid ⟨k+1,by omega,by rw [Nat.pow_succ,← Nat.div_div_eq_div_mul];congr 1,by congr 1;omega,by
      rw [show (48+((s / 10 ^ k:Nat):Int) % 10)=((48+s / 10 ^ k % 10:Nat):Int) by omega];exact h2⟩
    have hq:s / 10 ^ k < 1000000:=Nat.lt_of_le_of_lt (Nat.div_le_self _ _) HS2.out
    have b1:(0:Int) < ((6 - k:Nat):Int):=by omega
    have b2:((6 - k:Nat):Int) < 7:=by omega
    clear ho h2
    generalize s / 10 ^ k=q at *
    generalize 6 - k=i at *
    go_wp2_with fail
    exact⟨HR.out,by simp [intOf];omega⟩
   ·have hk6:k=6:=by omega
    subst hk6
    have sb:=src_bytes (bs:=nmBytes s) (ho.block 0 rfl) (nmArr_full s)
    have cv:=conv_str (w:=wr) (cap:=7) (n:=7) sb (fun e=>by cases e)
    have HO:=Lib.hid ho.drop
    clear ho hlt
    go_wp2_with fail
    go_ret
    exact⟨by rw [HE.out];rfl,HO.out⟩
end
def segV (l:List Nat):List Value:=l.map (fun s:Nat=>Value.int .i64 (s:Int))
theorem segV_one (l:List Nat):∀ u∈segV l,u.oneCell'=true:=by
 intro u hu
 obtain⟨b,_,rfl⟩:=List.mem_map.1 hu
 rfl
section
variable {F0:List Nat} {w0 w:World} {R:List Asrt}
def Segs (F0:List Nat) (w0:World) (R:List Asrt) (A:Option Addr) (l:List Nat):Prop:=∀ w',In F0 w0 w' R→Src w' A l.length 1 (segV l)
def UpRel (m:ManD) (F0:List Nat) (w0:World) (R:List Asrt) (q i:Value) (wr:World):Prop:=
 ∃ (k was:Nat),k≤m.segs.length∧q=.int .i64 was∧i=.int .i64 k∧upB m.next 0 m.segs=upB m.next was (m.segs.drop k)∧In F0 w0 wr R
def manAgg (m:ManD) (A:Option Addr) (c:Nat):Value:=.agg #[.int .i64 m.ver,.int .i64 m.next,.slice A m.segs.length c]
theorem o_may (h:In F0 w0 w R) (m:ManD) {A:Option Addr} {c:Nat} (hs:Segs F0 w0 R A m.segs) (hn:m.segs.length≤1000000000) :
  Calls Tryz.prog 141 #[manAgg m A c] w fun e w'=>e=.returned (.bool (mayM m))∧In F0 w0 w' R:=by
 have H1:=Lib.hid (h.cells #[.int .i64 m.ver,.int .i64 m.next,.slice A m.segs.length c] 104)
 have HF:Hid (∀ b,mayM m=b→(Ending.returned (.bool b)=Ending.returned (.bool (mayM m))∧In F0 w0 (w.alloc (.cells #[.int .i64 m.ver,.int .i64 m.next,.slice A m.segs.length c] 104)) R)):=Lib.hid fun b hb=>⟨by rw [hb],H1.out.drop⟩
 have HS:=Lib.hid hs
 have HM:Hid (mayM m=(decide (1≤m.ver∧m.ver≤3∧1≤m.segs.length∧m.segs.length≤64∧1≤m.next∧m.next≤1000000) && upB m.next 0 m.segs)):=Lib.hid rfl
 unfold manAgg
 clear h hs
 by_cases k1:m.ver < 1
 ·have HE:=Lib.hid (HF.out false (by rw [HM.out,decide_eq_false (by omega)];rfl))
  have q1:decide ((m.ver:Int) < 1)=true:=by simp;omega
  clear HF HM H1 k1
  go_enter Tryz.func141,Tryz.ntmps141
  go_wp2_with fail
  go_ret
  exact HE.out
 have q1:decide ((m.ver:Int) < 1)=false:=by simp;omega
 by_cases k2:3 < m.ver
 ·have HE:=Lib.hid (HF.out false (by rw [HM.out,decide_eq_false (by omega)];rfl))
  have q2:decide ((3:Int) < (m.ver:Int))=true:=by simp;omega
  clear HF HM H1 k1 k2
  go_enter Tryz.func141,Tryz.ntmps141
  go_wp2_with fail
  go_ret
  exact HE.out
 have q2:decide ((3:Int) < (m.ver:Int))=false:=by simp;omega
 by_cases k3:m.segs.length < 1
 ·have HE:=Lib.hid (HF.out false (by rw [HM.out,decide_eq_false (by omega)];rfl))
  have q3:decide ((m.segs.length:Int) < 1)=true:=by simp;omega
  clear HF HM H1 k1 k2 k3
  go_enter Tryz.func141,Tryz.ntmps141
  go_wp2_with fail
  go_ret
  exact HE.out
 have q3:decide ((m.segs.length:Int) < 1)=false:=by simp;omega
 by_cases k4:64 < m.segs.length
 ·have HE:=Lib.hid (HF.out false (by rw [HM.out,decide_eq_false (by omega)];rfl))
  have q4:decide ((64:Int) < (m.segs.length:Int))=true:=by simp;omega
  clear HF HM H1 k1 k2 k3 k4
  go_enter Tryz.func141,Tryz.ntmps141
  go_wp2_with fail
  go_ret
  exact HE.out
 have q4:decide ((64:Int) < (m.segs.length:Int))=false:=by simp;omega
 by_cases k5:m.next < 1
 ·have HE:=Lib.hid (HF.out false (by rw [HM.out,decide_eq_false (by omega)];rfl))
  have q5:decide ((m.next:Int) < 1)=true:=by simp;omega
  clear HF HM H1 k1 k2 k3 k4 k5
  go_enter Tryz.func141,Tryz.ntmps141
  go_wp2_with fail
  go_ret
  exact HE.out
 have q5:decide ((m.next:Int) < 1)=false:=by simp;omega
 by_cases k6:1000000 < m.next
 ·have HE:=Lib.hid (HF.out false (by rw [HM.out,decide_eq_false (by omega)];rfl))
  have q6:decide ((1000000:Int) < (m.next:Int))=true:=by simp;omega
  clear HF HM H1 k1 k2 k3 k4 k5 k6
  go_enter Tryz.func141,Tryz.ntmps141
  go_wp2_with fail
  go_ret
  exact HE.out
 have q6:decide ((1000000:Int) < (m.next:Int))=false:=by simp;omega
 have HM2:Hid (mayM m=upB m.next 0 m.segs):=Lib.hid (by rw [HM.out,decide_eq_true (by omega)];rfl)
 have hl64:m.segs.length≤64:=by omega
 have HST:Hid (UpRel m F0 w0 (Cells w.heap.size #[.int .i64 m.ver,.int .i64 m.next,.slice A m.segs.length c] 104::R) (.int .i64 0) (.int .i64 0) (w.alloc (.cells #[.int .i64 m.ver,.int .i64 m.next,.slice A m.segs.length c] 104))):=Lib.hid ⟨0,0,Nat.zero_le _,rfl,rfl,rfl,H1.out⟩
 clear HF HM H1 k1 k2 k3 k4 k5 k6 hn
 go_enter Tryz.func141,Tryz.ntmps141
 go_wp2_with fail
 clear q1 q2 q3 q4 q5 q6
 go_loopw [3,39] (UpRel m F0 w0 (Cells w.heap.size #[.int .i64 m.ver,.int .i64 m.next,.slice A m.segs.length c] 104::R)) (fun _ k _=>m.segs.length - (intOf k).toNat)
 case atStart=>exact HST.out
 case round=>
  obtain⟨k,was,hk,rfl,rfl,hup,ho⟩:=hrel
  clear HST
  by_cases hlt:k < m.segs.length
  ·obtain⟨s,hx⟩:∃ s,m.segs[k]?=some s:=⟨m.segs[k],List.getElem?_eq_getElem hlt⟩
   have hdr:m.segs.drop k=s::m.segs.drop (k+1):=by rw [List.drop_eq_getElem_cons hlt];congr 1;rw [List.getElem?_eq_getElem hlt] at hx;exact Option.some.inj hx
   obtain⟨ad,rfl,hc⟩:=(HS.out wr ho.drop).at' (by omega)
   have c0:=hc k (.int .i64 s) (by simp [segV,hx])
   have d1:wr.cell? ⟨w.heap.size,1,none⟩=some (.int .i64 m.next):=cell_of (ho.block 0 rfl) rfl
   have hlt':(k:Int) < (m.segs.length:Int):=by omega
   rw [hdr] at hup
   by_cases hs1:s≤was
   ·have HE:Hid (Ending.returned (.bool false)=Ending.returned (.bool (mayM m))∧In F0 w0 wr R):=Lib.hid ⟨by
     rw [HM2.out,hup];unfold upB;rw [decide_eq_false (by omega)];rfl,ho.drop⟩
    have q1:decide ((s:Int)≤(was:Int))=true:=by simp;omega
    have q1':decide (s≤was)=true:=by simp;omega
    clear ho hup hx hdr hc hlt
    go_wp2_with fail
    go_ret
    exact HE.out
   ·have q1:decide (s≤was)=false:=by simp;omega
    by_cases hs2:m.next≤s
    ·have HE:Hid (Ending.returned (.bool false)=Ending.returned (.bool (mayM m))∧In F0 w0 wr R):=Lib.hid ⟨by
      rw [HM2.out,hup];unfold upB;rw [decide_eq_false (by omega)];rfl,ho.drop⟩
     have q2:decide (m.next≤s)=true:=by simp;omega
     clear ho hup hx hdr hc hlt hs1
     go_wp2_with fail
     go_ret
     exact HE.out
    ·have q2:decide (m.next≤s)=false:=by simp;omega
     have HR:Hid (UpRel m F0 w0 (Cells w.heap.size #[.int .i64 m.ver,.int .i64 m.next,.slice (some ad) m.segs.length c] 104::R) (.int .i64 s) (.int .i64 (k+1)) wr):=Lib.hid ⟨k+1,s,by omega,rfl,by go_num,by
      rw [hup];conv=>lhs;unfold upB
      rw [decide_eq_true (by omega),Bool.true_and],ho⟩
     clear ho hup hx hdr hc hlt hs1 hs2
     go_wp2_with fail
     go_roundw
     case rel=>exact HR.out
     case measure=>simp [intOf];omega
  ·have hge:(m.segs.length:Int)≤(k:Int):=by omega
   have HE:Hid (Ending.returned (.bool true)=Ending.returned (.bool (mayM m))∧In F0 w0 wr R):=Lib.hid ⟨by
    rw [HM2.out,hup,List.drop_eq_nil_of_le (by omega)];rfl,ho.drop⟩
   clear ho hup hlt
   go_wp2_with fail
   go_ret
   exact HE.out
end
theorem upB_mem {b:Nat}:∀ {l:List Nat} {was:Nat},upB b was l=true→∀ s∈l,was < s∧s < b
 | [],_,_,s,hs=>by simp at hs
 | x::r,was,h,s,hs=>by
  unfold upB at h
  rw [Bool.and_eq_true,decide_eq_true_eq] at h
  rcases List.mem_cons.1 hs with rfl | hs
  ·exact h.1
  ·have:=upB_mem h.2 s hs
   omega
theorem mayM_iff {m:ManD}:mayM m=true↔(1≤m.ver∧m.ver≤3∧1≤m.segs.length∧m.segs.length≤64∧1≤m.next∧m.next≤1000000)∧upB m.next 0 m.segs=true:=by
 unfold mayM;rw [Bool.and_eq_true,decide_eq_true_eq]
theorem mayM_seg {m:ManD} (h:mayM m=true) {s:Nat} (hs:s∈m.segs):1≤s∧s < m.next∧s < 1000000:=by
 obtain⟨h1,h2⟩:=mayM_iff.1 h
 have:=upB_mem h2 s hs
 omega
def segB (l:List Nat):List UInt8:=(l.map (fun s=>be s 4)).flatten
theorem segB_length (l:List Nat):(segB l).length=4 * l.length:=by
 induction l with
 | nil=>rfl
 | cons s r ih=>
  have:segB (s::r)=be s 4++segB r:=rfl
  rw [this,List.length_append,ih,be_length,List.length_cons];omega
theorem segB_snoc (l:List Nat) (s:Nat):segB (l++[s])=segB l++be s 4:=by simp [segB]
theorem manBody_eq (m:ManD):manBody m=be m.next 4++be m.segs.length 2++segB m.segs:=rfl
theorem manBody_length (m:ManD):(manBody m).length=6+4 * m.segs.length:=by
 rw [manBody_eq,List.length_append,List.length_append,segB_length,be_length,be_length]
theorem man_ok {m:ManD} (h:mayM m=true):FrOk (manFr m):=by
 obtain⟨h1,_⟩:=mayM_iff.1 h
 exact⟨by simp [manFr],by simp [manFr];omega,by simp only [manFr,manBody_length];omega⟩
section
variable {F0:List Nat} {w0 w:World} {R:List Asrt}
def EncPost (m:ManD) (F0:List Nat) (w0:World) (R:List Asrt) (e:Ending) (w':World):Prop:=
 ∃ v,e=.returned (.tuple #[v,.int .i64 (manEnc m).2])∧In F0 w0 w' (RowA 5 1 v (manEnc m).1.length (u8s (manEnc m).1)::R)
def EncRel (m:ManD) (g b:Nat) (A:Option Addr) (c:Nat) (F0:List Nat) (w0:World) (R:List Asrt) (i:Value) (wr:World):Prop:=
 ∃ k:Nat,k≤m.segs.length∧i=.int .i64 k∧In F0 w0 wr (WA g (be m.next 4++be m.segs.length 2++segB (m.segs.take k))::Cells b #[.int .i64 m.ver,.int .i64 m.next,.slice A m.segs.length c] 104::R)
theorem u64_of {n:Nat} (h:n < 18446744073709551616):u64 (n:Int)=n:=by unfold u64;omega
theorem o_mfenc (h:In F0 w0 w R) (m:ManD) {A:Option Addr} {c:Nat} (hs:Segs F0 w0 R A m.segs) (hn:m.segs.length≤1000000000) :
  Calls Tryz.prog 102 #[manAgg m A c] w (EncPost m F0 w0 R):=by
 have h1:=h.cells #[.int .i64 m.ver,.int .i64 m.next,.slice A m.segs.length c] 104
 have H1:=Lib.hid h1
 have HS:=Lib.hid hs
 have C1:=Lib.hid (o_may h1 m (A:=A) (c:=c) (fun w' h'=>hs w' h'.drop) hn)
 unfold manAgg at C1 ⊢
 clear h hs
 by_cases hm:mayM m=false
 ·have HF:Hid (∀ w',In F0 w0 w' R→EncPost m F0 w0 R (.returned (.tuple #[.slice none 0 0,.int .i64 1])) w'):=Lib.hid fun w' h'=>by
   have e:manEnc m=([],1):=by unfold manEnc;rw [hm];rfl
   exact⟨_,by rw [e],by rw [e];exact h'.rownil _ _⟩
  have HM:=Lib.hid hm
  clear hm h1
  go_enter Tryz.func102,Tryz.ntmps102
  go_wp2_with fail
  refine C1.out.mono ?_
  rintro e w1 ⟨rfl,g1⟩
  rw [HM.out]
  have HE:=Lib.hid (HF.out w1 g1.drop)
  clear g1 C1 HF HM
  go_wp2_with fail
  go_ret2
  exact HE.out
 ·have hm':mayM m=true:=by simpa using hm
  obtain⟨hb,hup⟩:=mayM_iff.1 hm'
  have HM:=Lib.hid hm'
  have hv:m.ver≤3:=hb.2.1
  have hl64:m.segs.length≤64:=hb.2.2.2.1
  have hnx:m.next < 4294967296:=by omega
  have HE2:Hid (manEnc m=(frBytes (manFr m),0)):=Lib.hid (by unfold manEnc;rw [hm'];rfl)
  have HSG:Hid (∀ s∈m.segs,s < 1000000):=Lib.hid fun s hs=>(mayM_seg hm' hs).2.2
  have HU:Hid (u64 (m.next:Int)=m.next∧u64 (m.segs.length:Int)=m.segs.length):=Lib.hid ⟨u64_of (by omega),u64_of (by omega)⟩
  clear hm hm' h1 hb hup hn
  go_enter Tryz.func102,Tryz.ntmps102
  go_wp2_with fail
  refine C1.out.mono ?_
  rintro e w1 ⟨rfl,g1⟩
  rw [HM.out]
  have d1:(w1.alloc (.cells #[.slice none 0 0] 143)).cell? ⟨w.heap.size,1,none⟩=some (.int .i64 m.next):=cell_of ((g1.cells #[.slice none 0 0] 143).block 1 rfl) rfl
  have g2:=w_new (g1.cells #[.slice none 0 0] 143)
  have C2:=o_wu32 g2 0 rfl (by simp) (n:=(m.next:Int)) (by omega) (by omega)
  rw [HU.out.1] at C2
  have K2:=Lib.hid C2
  clear C1 C2 g1 g2
  go_wp2_with fail
  refine K2.out.mono ?_
  rintro e w2 ⟨rfl,g2⟩
  have d2:w2.cell? ⟨w.heap.size,2,none⟩=some (.slice A m.segs.length c):=cell_of (g2.block 1 rfl) rfl
  have C3:=o_wu16 g2 0 rfl (by rw [List.nil_append,be_length];omega) (m.segs.length:Int)
  rw [HU.out.2,List.nil_append] at C3
  have K3:=Lib.hid C3
  clear C3 g2 K2 d1
  go_wp2_with fail
  refine K3.out.mono ?_
  rintro e w3 ⟨rfl,g3⟩
  have d2:w3.cell? ⟨w.heap.size,2,none⟩=some (.slice A m.segs.length c):=cell_of (g3.block 1 rfl) rfl
  have HR:Hid (EncRel m w1.heap.size w.heap.size A c F0 w0 R (.int .i64 0) w3):=Lib.hid ⟨0,Nat.zero_le _,rfl,by simpa [segB] using g3⟩
  clear g3 K3
  go_wp2_with fail
  go_loopw [25] (EncRel m w1.heap.size w.heap.size A c F0 w0 R) (fun k _=>m.segs.length - (intOf k).toNat)
  case atStart=>exact HR.out
  case round=>
   obtain⟨k,hk,rfl,ho⟩:=hrel
   clear HR d2
   by_cases hlt:k < m.segs.length
   ·obtain⟨s,hx⟩:∃ s,m.segs[k]?=some s:=⟨m.segs[k],List.getElem?_eq_getElem hlt⟩
    obtain⟨ad,rfl,hc⟩:=(HS.out wr ho.drop.drop).at' (by omega)
    have c0:=hc k (.int .i64 s) (by simp [segV,hx])
    have hs6:=HSG.out s (List.mem_of_getElem? hx)
    have hs32:s < 4294967296:=by omega
    have hlen:(be m.next 4++be m.segs.length 2++segB (m.segs.take k)).length≤1000000:=by
     simp only [List.length_append,be_length,segB_length,List.length_take];omega
    have C4:=o_wu32 ho 0 rfl hlen (n:=(s:Int)) (by omega) (by omega)
    rw [u64_of (show s < 18446744073709551616 by omega)] at C4
    have K4:=Lib.hid C4
    have HT:Hid (segB (m.segs.take (k+1))=segB (m.segs.take k)++be s 4):=Lib.hid (by rw [List.take_add_one,hx];exact segB_snoc _ _)
    have hlt':(k:Int) < (m.segs.length:Int):=by omega
    clear ho C4 hc hx hs6 hlen hlt
    go_wp2_with fail
    refine K4.out.mono ?_
    rintro e w4 ⟨rfl,g4⟩
    have HR:Hid (EncRel m w1.heap.size w.heap.size (some ad) c F0 w0 R (.int .i64 (k+1)) w4):=Lib.hid ⟨k+1,by omega,by go_num,by rw [HT.out,← List.append_assoc];exact g4⟩
    clear g4 K4 HT
    go_wp2_with fail
    go_roundw
    case rel=>exact HR.out
    case measure=>simp [intOf];omega
   ·have hge:(m.segs.length:Int)≤(k:Int):=by omega
    have hkl:k=m.segs.length:=by omega
    have ho2:In F0 w0 wr (WA w1.heap.size (manBody m)::Cells w.heap.size #[.int .i64 m.ver,.int .i64 m.next,.slice A m.segs.length c] 104::R):=by
     rw [manBody_eq];rw [hkl,List.take_length] at ho;exact ho
    have hml:=manBody_length m
    have C5:=Lib.hid (fun n=>o_wbytes (ho2.drewN n) 0 rfl (by omega))
    have dv:wr.cell? ⟨w.heap.size,0,none⟩=some (.int .i64 m.ver):=cell_of (ho2.block 1 rfl) rfl
    have HO:=Lib.hid ho2
    have HML:=Lib.hid hml
    clear ho ho2 hlt hkl hml
    go_wp2_with fail
    have HP:Hid (∀ w5 v5,In F0 w0 w5 (RowA 5 1 v5 (manBody m).length (u8s (manBody m))::WA w1.heap.size (manBody m)::Cells w.heap.size #[.int .i64 m.ver,.int .i64 m.next,.slice A m.segs.length c] 104::R) →
      w5.cell? ⟨w.heap.size,0,none⟩=some (.int .i64 m.ver)∧∃ a5 c5,v5=.slice a5 (manBody m).length c5∧Calls Tryz.prog 72 #[.agg #[.int .i64 100,.int .i64 m.ver,.slice a5 (manBody m).length c5]] w5 fun e w'=>∃ v,e=.returned (.tuple #[v,.int .i64 0])∧w'.cell? ⟨w.heap.size,0,none⟩=some (.int .i64 m.ver)∧EncPost m F0 w0 R (.returned (.tuple #[v,.int .i64 0])) w'):=Lib.hid fun w5 v5 h5=>by
     obtain⟨F5,r5⟩:=h5.get 0 rfl
     obtain⟨a5,c5,rfl,-,-,-⟩:=r5.shape
     refine⟨cell_of (h5.block 2 rfl) rfl,a5,c5,rfl,(o_frput h5 100 m.ver (A:=a5) (c:=c5) (body:=manBody m) (by rw [HML.out];omega) (fun w' h'=>by obtain⟨F',r'⟩:=h'.get 0 rfl;exact r'.all)).mono fun e w' ⟨v,he,h6⟩=>?_⟩
     have e0:putErr 100 m.ver (manBody m).length=0:=by unfold putErr;rw [if_neg (by omega),if_neg (by rw [HML.out];omega)]
     have e1:putB 100 m.ver (manBody m)=frBytes (manFr m):=by unfold putB;rw [if_pos e0];rfl
     rw [e0] at he
     rw [e1] at h6
     refine⟨v,he,cell_of (h6.block 3 rfl) rfl,v,by rw [HE2.out],?_⟩
     rw [HE2.out]
     exact h6.sel2 (R1:=[_,_,_,_]) [0] (by decide) rfl
    go_region_held3 (fun w'=>w'.cell? ⟨w.heap.size,0,none⟩=some (.int .i64 m.ver)) (first | exact hc2 | exact hc1 | go_keep) (first | (go_at_call 71;refine (C5.out 1).mono ?_;rintro e w5 ⟨v5,rfl,g5⟩;obtain⟨hc1,a5,c5,rfl,hput⟩:=HP.out w5 v5 g5;have HPUT:=Lib.hid hput;clear hput g5) | (go_at_call 72;refine HPUT.out.mono ?_;rintro e w6 ⟨v6,rfl,hc2,hfin⟩;have HFIN:=Lib.hid hfin;clear hfin))
    go_wp2_with fail
    go_ret2
    exact HFIN.out
end
def rdAt:Nat→List UInt8→Int→List Nat×List UInt8×Int
 | 0,l,e=>([],l,e)
 | j+1,l,e=>((rdAt j l e).1++[num (rdTake (rdAt j l e).2.1 (rdAt j l e).2.2 4).1],(rdTake (rdAt j l e).2.1 (rdAt j l e).2.2 4).2.1,(rdTake (rdAt j l e).2.1 (rdAt j l e).2.2 4).2.2)
theorem rdAt_length (l:List UInt8) (e:Int):∀ j,(rdAt j l e).1.length=j
 | 0=>rfl
 | j+1=>by simp [rdAt,rdAt_length l e j]
theorem rdAt_ok (l:List UInt8):∀ j,4 * j≤l.length→rdAt j l 0=((List.range j).map (fun i=>num ((l.drop (4 * i)).take 4)),l.drop (4 * j),0)
 | 0,_=>by simp [rdAt]
 | j+1,h=>by
  have ih:=rdAt_ok l j (by omega)
  unfold rdAt
  rw [ih]
  simp only
  rw [rdTake_ok (by rw [List.length_drop];omega),List.range_succ,List.map_append,List.drop_drop]
  rfl
theorem rdAt_bad (l:List UInt8) {e:Int} (he:e≠0):∀ j,(rdAt j l e).2.2≠0
 | 0=>he
 | j+1=>by
  unfold rdAt;simp only
  unfold rdTake
  rw [if_pos (rdAt_bad l he j)]
  exact rdAt_bad l he j
theorem rdAt_short (l:List UInt8):∀ j,l.length < 4 * j→(rdAt j l 0).2.2≠0
 | 0,h=>by omega
 | j+1,h=>by
  unfold rdAt;simp only
  by_cases hj:l.length < 4 * j
  ·unfold rdTake;rw [if_pos (rdAt_short l j hj)];exact rdAt_short l j hj
  ·rw [rdAt_ok l j (by omega)]
   simp only
   unfold rdTake
   rw [if_neg (by simp),if_pos (by rw [List.length_drop];omega)]
   simp
theorem rdAt_le (l:List UInt8) (e:Int):∀ j,(rdAt j l e).2.1.length≤l.length
 | 0=>Nat.le_refl _
 | j+1=>by
  have ih:=rdAt_le l e j
  unfold rdAt;simp only
  unfold rdTake
  split
  ·exact ih
  ·split
   ·simp
   ·simp only [List.length_drop];omega
theorem rdTake_le (l:List UInt8) (e:Int) (n:Nat):(rdTake l e n).2.1.length≤l.length:=by
 unfold rdTake
 split
 ·exact Nat.le_refl _
 ·split
  ·simp
  ·simp only [List.length_drop];omega
theorem endE_ok {l:List UInt8} {e:Int}:endE l e=0↔e=0∧l=[]:=by
 unfold endE
 by_cases he:e=0
 ·rw [if_pos he]
  by_cases hl:l=[]
  ·simp [hl,he]
  ·rw [if_neg hl];simp [hl]
 ·rw [if_neg he];simp [he]
theorem rdAt_end (l:List UInt8) (j:Nat):endE (rdAt j l 0).2.1 (rdAt j l 0).2.2=0↔l.length=4 * j:=by
 rw [endE_ok]
 by_cases h:4 * j≤l.length
 ·rw [rdAt_ok l j h]
  simp only [true_and,List.drop_eq_nil_iff];omega
 ·exact⟨fun h2=>absurd h2.1 (rdAt_short l j (by omega)),fun h2=>by omega⟩
def decR (ver:Nat) (x:List UInt8):ManD×List UInt8×Int:=
 let t0:=rdTake x 0 4
 let t1:=rdTake t0.2.1 t0.2.2 2
 let st:=rdAt (min (num t1.1) 65) t1.2.1 t1.2.2
 (⟨ver,num t0.1,st.1⟩,st.2)
theorem dec_eq (ver:Nat) (x:List UInt8) :
  (if x.length=6+4 * num ((x.drop 4).take 2)∧mayM ⟨ver,num (x.take 4),(List.range (num ((x.drop 4).take 2))).map (fun j=>num ((x.drop (6+4 * j)).take 4))⟩ then ((⟨ver,num (x.take 4),(List.range (num ((x.drop 4).take 2))).map (fun j=>num ((x.drop (6+4 * j)).take 4))⟩:ManD),(0:Int)) else (default,3)) =
  if endE (decR ver x).2.1 (decR ver x).2.2=0∧mayM (decR ver x).1 then ((decR ver x).1,0) else (default,3):=by
 unfold decR
 simp only
 by_cases h6:6≤x.length
 ·have e0:rdTake x 0 4=(x.take 4,x.drop 4,0):=rdTake_ok (by omega)
  have e1:rdTake (x.drop 4) 0 2=((x.drop 4).take 2,x.drop 6,0):=by rw [rdTake_ok (by rw [List.length_drop];omega),List.drop_drop]
  rw [e0];simp only
  rw [e1];simp only
  generalize hk:num ((x.drop 4).take 2)=k
  by_cases hk65:k≤65
  ·rw [Nat.min_eq_left hk65]
   have hiff:=rdAt_end (x.drop 6) k
   rw [List.length_drop] at hiff
   by_cases hx:x.length=6+4 * k
   ·have h1:4 * k≤(x.drop 6).length:=by rw [List.length_drop];omega
    have e2:=rdAt_ok (x.drop 6) k h1
    have e3:(fun i=>num (((x.drop 6).drop (4 * i)).take 4))=fun j=>num ((x.drop (6+4 * j)).take 4):=by
     funext i;rw [List.drop_drop]
    rw [e3] at e2
    have h2:=hiff.2 (by omega)
    rw [e2] at h2 ⊢
    simp only [hx,true_and] at h2 ⊢
    simp only [h2,true_and]
   ·rw [if_neg (fun h=>hx h.1),if_neg (fun h=>hx (by have:=hiff.1 h.1;omega))]
  ·have hl:(rdAt (min k 65) (x.drop 6) 0).1.length=65:=by rw [rdAt_length];omega
   rw [if_neg (fun h=>?_),if_neg (fun h=>?_)]
   ·have:=(mayM_iff.1 h.2).1.2.2.2.1
    simp only [hl] at this;omega
   ·have:=(mayM_iff.1 h.2).1.2.2.2.1
    simp only [List.length_map,List.length_range] at this;omega
 ·rw [if_neg (fun h=>by have:=h.1;omega),if_neg (fun h=>?_)]
  have hend:=(endE_ok.1 h.1).1
  by_cases h4:4≤x.length
  ·have e0:rdTake x 0 4=(x.take 4,x.drop 4,0):=rdTake_ok h4
   rw [e0] at hend
   simp only at hend
   have:rdTake (x.drop 4) 0 2=([],[],2):=by unfold rdTake;rw [if_neg (by simp),if_pos (by rw [List.length_drop];omega)]
   rw [this] at hend
   exact rdAt_bad [] (by decide) _ hend
  ·have e0:rdTake x 0 4=([],[],2):=by unfold rdTake;rw [if_neg (by simp),if_pos (by omega)]
   rw [e0] at hend
   simp only at hend
   have:rdTake [] 2 2=([],[],2):=by unfold rdTake;rw [if_pos (by decide)]
   rw [this] at hend
   exact rdAt_bad [] (by decide) _ hend
section
variable {F0:List Nat} {w0 w:World} {R:List Asrt}
theorem Bytes.weak {A:Option Addr} {c:Nat} {b:List UInt8} {X:List Asrt} (h:Bytes F0 w0 R A c b):Bytes F0 w0 (X++R) A c b:=
 ⟨fun w' h'=>h.src w' h'.right,h.nil,h.ad,h.cap,h.room⟩
theorem row_bytes {v:Value} {b:List UInt8} {i:Nat} {X:List Asrt} (h:In F0 w0 w X) (hA:X[i]?=some (RowA 5 1 v b.length (u8s b))):∃ A c,v=.slice A b.length c∧Bytes F0 w0 X A c b:=by
 obtain⟨F,hr⟩:=h.get i hA
 obtain⟨a,cap,rfl,k1,k2,-⟩:=hr.shape
 refine⟨a,cap,rfl,⟨fun w' h'=>by obtain⟨F',hr'⟩:=h'.get i hA;exact hr'.all,fun e=>?_,?_,k1,k2⟩⟩
 ·subst e
  obtain⟨_,_,h4 | ⟨g,_,_,e,_⟩⟩:=hr
  ·have:=h4.1;simp only [Value.slice.injEq,true_and] at this
   exact⟨this.2,List.length_eq_zero_iff.1 this.1⟩
  ·simp at e
 ·obtain⟨_,_,h4 | ⟨g,_,_,e,_⟩⟩:=hr
  ·have:=h4.1;simp only [Value.slice.injEq] at this;exact Or.inl this.1
  ·simp only [Value.slice.injEq] at e;exact Or.inr ⟨g,0,e.1⟩
def zeroMan:ManD:=⟨0,0,[]⟩
theorem default_man:(default:ManD)=zeroMan:=rfl
theorem infoInt:(Tryz.prog.info? 3).map (fun i=>(i.zero.map (fun z=>z.cells.size),i.size,i.bytes))=some (some 1,1,8):=by kernel_rfl
def DecPost (b:List UInt8) (F0:List Nat) (w0:World) (R:List Asrt) (e:Ending) (w':World):Prop:=
 ∃ v,e=.returned (.tuple #[.agg #[.int .i64 (manDec b).1.ver,.int .i64 (manDec b).1.next,v],.int .i64 (manDec b).2]) ∧
  In F0 w0 w' (RowA 3 1 v (manDec b).1.segs.length (segV (manDec b).1.segs)::R)
def DecRel (br mb:Nat) (ver:Nat) (nx:Nat) (x:List UInt8) (e0:Int) (n:Nat) (F0:List Nat) (w0:World) (R:List Asrt) (k:Value) (wr:World):Prop:=
 ∃ (j:Nat) (v:Value),k=.int .i64 j∧j≤n ∧
  In F0 w0 wr (RdA br (rdAt j x e0).2.1 (rdAt j x e0).2.2::Cells mb #[.int .i64 ver,.int .i64 nx,v] 104::RowA 3 1 v (rdAt j x e0).1.length (segV (rdAt j x e0).1)::R)
theorem o_mfdec (h:In F0 w0 w R) {A:Option Addr} {c:Nat} {b:List UInt8} (hb:Bytes F0 w0 R A c b) (hl:b.length≤100000000) :
  Calls Tryz.prog 82 #[.slice A b.length c] w (DecPost b F0 w0 R):=by
 have h1:=h.cells #[.int .i64 0,.int .i64 0,.slice none 0 0] 104
 have C1:=Lib.hid (o_frtake h1 (hb.weak (X:=[_])) hl)
 clear h h1 hb
 go_enter Tryz.func82,Tryz.ntmps82
 go_wp2_with fail
 refine C1.out.mono ?_
 rintro e w1 ⟨vb,rfl,g1⟩
 clear C1
 obtain⟨ab,cb,rfl,hbb⟩:=row_bytes (b:=(frTake b).1.body) (i:=0) g1 rfl
 have blk:=g1.block 1 rfl
 have HERR:Hid (∀ (e:Int) o,manDec b=(zeroMan,e)→DecPost b F0 w0 R (.returned (.tuple #[.agg #[.int .i64 0,.int .i64 0,.slice none 0 0],.int .i64 e])) ((((w1.alloc o).setCell ⟨w.heap.size,0,none⟩ (.int .i64 0)).setCell ⟨w.heap.size,1,none⟩ (.int .i64 0)).setCell ⟨w.heap.size,2,none⟩ (.slice none 0 0))):=
  Lib.hid fun e o he=>⟨_,by rw [he];rfl,by rw [he];exact ((g1.alloc o).drop.set3 _ _ _).drop.rownil _ _⟩
 have HM:Hid (manDec b=if (frTake b).2.2≠0 then (zeroMan,(frTake b).2.2) else if (frTake b).2.1 < b.length∨(frTake b).1.kind≠100 then (zeroMan,3) else if (frTake b).1.ver < 1∨3 < (frTake b).1.ver then (zeroMan,10)
   else if endE (decR (frTake b).1.ver (frTake b).1.body).2.1 (decR (frTake b).1.ver (frTake b).1.body).2.2=0∧mayM (decR (frTake b).1.ver (frTake b).1.body).1 then ((decR (frTake b).1.ver (frTake b).1.body).1,0) else (zeroMan,3)):=Lib.hid (by
  rw [← default_man,← dec_eq];rfl)
 have htk:=Lib.hid (fun h=>(frTake_ok (b:=b) h))
 have B1:=Lib.hid hbb
 have G1:=Lib.hid g1
 generalize hT:frTake b=T at *
 obtain⟨⟨kd,vd,body⟩,n,er⟩:=T
 simp only at *
 have hal:∀ (C:Array Value) (T:TypeId),(w1.alloc (.cells C T)).heap[w.heap.size]?=some (.cells #[.int .i64 0,.int .i64 0,.slice none 0 0] 104 (0,0)):=fun C T=>(hp_alloc_old (hp_lt blk)).trans blk
 have d0:=fun C T=>cell_of (o:=0) (hal C T) rfl
 have d1:=fun C T=>cell_of (o:=1) (hal C T) rfl
 have d2:=fun C T=>cell_of (o:=2) (hal C T) rfl
 have f0:=fun C T=>free_of (o:=0) (hal C T)
 have f1:=fun C T=>free_of (o:=1) (hal C T)
 have f2:=fun C T=>free_of (o:=2) (hal C T)
 have y0:∀ C T x,((w1.alloc (.cells C T)).setCell ⟨w.heap.size,0,none⟩ x).cell? ⟨w.heap.size,0,none⟩=some x:=fun C T x=>set_cell_same (hal C T) (by simp) x
 have y1:∀ C T x y,(((w1.alloc (.cells C T)).setCell ⟨w.heap.size,0,none⟩ x).setCell ⟨w.heap.size,1,none⟩ y).cell? ⟨w.heap.size,1,none⟩=some y:=fun C T x y=>set_cell_same (hp_setCell_same (hal C T)) (by simp) y
 have y2:∀ C T x y z,((((w1.alloc (.cells C T)).setCell ⟨w.heap.size,0,none⟩ x).setCell ⟨w.heap.size,1,none⟩ y).setCell ⟨w.heap.size,2,none⟩ z).cell? ⟨w.heap.size,2,none⟩=some z:=fun C T x y z=>set_cell_same (hp_setCell_same (hp_setCell_same (hal C T))) (by simp) z
 have Y:=Lib.hid (And.intro y0 (And.intro y1 y2))
 clear g1 hbb blk hal y0 y1 y2 hT
 by_cases h0:er=0
 ·subst h0
  by_cases hk:n < b.length∨kd≠100
  ·have HE:=Lib.hid (fun o=>HERR.out 3 o (by rw [HM.out,if_neg (by simp),if_pos hk]))
   clear HERR HM htk
   by_cases hk1:n < b.length
   ·have hk1':(n:Int) < (b.length:Int):=by omega
    clear hk hk1
    go_wp2_with fail
    exact bodyPost_ret (v:=.tuple #[.agg #[.int .i64 0,.int .i64 0,.slice none 0 0],.int .i64 3]) (by simp [results,Tryz.results82,go_sem,Y.out.1,Y.out.2.1,Y.out.2.2]) rfl (HE.out _)
   ·have hk2:kd≠100:=by omega
    have q1:decide (n < b.length)=false:=by simpa using hk1
    have q2:((kd:Int) != 100)=true:=by rw [bne_iff_ne];omega
    clear hk hk1 hk2
    go_wp2_with fail
    exact bodyPost_ret (v:=.tuple #[.agg #[.int .i64 0,.int .i64 0,.slice none 0 0],.int .i64 3]) (by simp [results,Tryz.results82,go_sem,Y.out.1,Y.out.2.1,Y.out.2.2]) rfl (HE.out _)
  ·have hk1:¬ n < b.length:=fun h=>hk (Or.inl h)
   have hk2:kd=100:=by omega
   have q1:decide (n < b.length)=false:=by simpa using hk1
   have q2:((kd:Int) != 100)=false:=by rw [hk2];rfl
   by_cases hv:vd < 1∨3 < vd
   ·have HE:=Lib.hid (fun o=>HERR.out 10 o (by rw [HM.out,if_neg (by simp),if_neg hk,if_pos hv]))
    clear HERR HM htk hk hk1 hk2
    by_cases hv1:vd < 1
    ·have hv1':(vd:Int) < 1:=by omega
     clear hv hv1
     go_wp2_with fail
     exact bodyPost_ret (v:=.tuple #[.agg #[.int .i64 0,.int .i64 0,.slice none 0 0],.int .i64 10]) (by simp [results,Tryz.results82,go_sem,Y.out.1,Y.out.2.1,Y.out.2.2]) rfl (HE.out _)
    ·have hv1':¬ (vd:Int) < 1:=by omega
     have hv2':(3:Int) < (vd:Int):=by omega
     clear hv hv1
     go_wp2_with fail
     exact bodyPost_ret (v:=.tuple #[.agg #[.int .i64 0,.int .i64 0,.slice none 0 0],.int .i64 10]) (by simp [results,Tryz.results82,go_sem,Y.out.1,Y.out.2.1,Y.out.2.2]) rfl (HE.out _)
   ·have hv1:(1:Int)≤(vd:Int):=by omega
    have hv2:(vd:Int)≤3:=by omega
    have HM2:Hid (manDec b=if endE (decR vd body).2.1 (decR vd body).2.2=0∧mayM (decR vd body).1 then ((decR vd body).1,0) else (zeroMan,3)):=Lib.hid (by rw [HM.out,if_neg (by simp),if_neg hk,if_neg hv])
    have hbl:body.length≤4096:=(htk.out rfl).2.2.2.body
    have h2:=G1.out.cells #[.int .i64 kd,.int .i64 vd,.slice ab body.length cb] 74
    have C2:=Lib.hid (o_rnew h2 B1.out.nil (B1.out.src _ h2.drop) (by omega))
    clear HERR HM htk hk hk1 hk2 hv Y
    go_wp2_with fail
    refine C2.out.mono ?_
    rintro e w2 ⟨br,rfl,g2⟩
    have fv:w2.cell? ⟨w1.heap.size,1,none⟩=some (.int .i64 vd):=cell_of (g2.block 1 rfl) rfl
    have GA:=Lib.hid (g2.drewN 1)
    have gb:In F0 w0 ((w2.drewN 1).alloc (.cells #[.int .i64 0,.int .i64 0,.slice none 0 0] 104)) (RdA br body 0::Cells w2.heap.size #[.int .i64 0,.int .i64 0,.slice none 0 0] 104::Cells w1.heap.size #[.int .i64 kd,.int .i64 vd,.slice ab body.length cb] 74::RowA 5 1 (.slice ab body.length cb) body.length (u8s body)::Cells w.heap.size #[.int .i64 0,.int .i64 0,.slice none 0 0] 104::R):=(((g2.drewN 1).cells #[.int .i64 0,.int .i64 0,.slice none 0 0] 104).perm (List.Perm.swap _ _ _))
    have GB:=Lib.hid gb
    have K3:Hid (∀ W X,In F0 w0 W (RdA br body 0::X)→Calls Tryz.prog 138 #[.pointer (some ⟨br,0,none⟩)] W (RdPost (.int .u32 (num (rdTake body 0 4).1)) br (rdTake body 0 4) 0 F0 w0 (RdA br body 0::X))):=Lib.hid fun W X hW=>o_ru32 hW 0 rfl
    have hn4:num (rdTake body 0 4).1 < 4294967296:=by
     have:=num_lt_of (rdTake_len body 0 4)
     simpa using this
    have nn:=World.new_ne w2 _ fv
    obtain⟨nx,hnx⟩:∃ nx,num (rdTake body 0 4).1=nx:=⟨_,rfl⟩
    rw [hnx] at hn4 K3
    have NX:=Lib.hid hnx
    have hw:IntKind.i64.wrap (nx:Int)=nx:=by rw [IntKind.wrap_i64];omega
    clear hnx
    clear d0 d1 d2 f0 f1 f2 h2 C2 g2 gb q1 q2
    go_wp2_with fail
    go_region_held3 (fun w'=>w'.cell? ⟨w1.heap.size,1,none⟩=some (.int .i64 vd)) (first | exact hc1 | go_keep) (first | (go_at_call 138;refine (K3.out _ _ GA.out).mono ?_;rintro e w3 ⟨rfl,g3⟩;have hc1:w3.cell? ⟨w1.heap.size,1,none⟩=some (.int .i64 vd):=cell_of (g3.block 1 rfl) rfl) | (go_at_call 138;refine (K3.out _ _ GB.out).mono ?_;rintro e w3 ⟨rfl,g3⟩;have hc1:w3.cell? ⟨w1.heap.size,1,none⟩=some (.int .i64 vd):=cell_of (g3.block 2 rfl) rfl;have mk:=g3.block 1 rfl;have m0:w3.cell? ⟨_,0,none⟩=some _:=cell_of mk rfl;have m1:w3.cell? ⟨_,1,none⟩=some _:=cell_of mk rfl;have m2:w3.cell? ⟨_,2,none⟩=some _:=cell_of mk rfl;have n0:w3.frozen? ⟨_,0,none⟩=false:=free_of mk;have n1:w3.frozen? ⟨_,1,none⟩=false:=free_of mk;have n2:w3.frozen? ⟨_,2,none⟩=false:=free_of mk))
    -- WAYS
    ·have g4:=(g3.cells #[.int .i64 vd,.int .i64 nx,.slice none 0 0] 104).rownil 3 1
     have g4:=In.sel2 (R1:=[_,_,_]) g4 [2,1,0] (by decide) rfl
     have G4:=Lib.hid g4
     have K4:=Lib.hid (o_ru16 g4 0 rfl)
     have hk16:num (rdTake (rdTake body 0 4).2.1 (rdTake body 0 4).2.2 2).1 < 65536:=by
      have:=num_lt_of (rdTake_len (rdTake body 0 4).2.1 (rdTake body 0 4).2.2 2)
      simpa using this
     clear g3 g4
     go_wp2_with fail
     refine K4.out.mono ?_
     rintro e w5 ⟨rfl,g5⟩
     have G5:=Lib.hid g5
     clear g5 K4 G4
     obtain⟨t1,ht1⟩:∃ t1,rdTake (rdTake body 0 4).2.1 (rdTake body 0 4).2.2 2=t1:=⟨_,rfl⟩
     simp only [ht1] at hk16 G5 ⊢
     have T1:=Lib.hid ht1
     clear ht1
     obtain⟨N,hN⟩:∃ N,min (num t1.1) 65=N:=⟨_,rfl⟩
     have hN65:N≤65:=by omega
     have HDR:Hid (decR vd body=(⟨vd,nx,(rdAt N t1.2.1 t1.2.2).1⟩,(rdAt N t1.2.1 t1.2.2).2)):=Lib.hid (by
      unfold decR;simp only;rw [T1.out,hN,NX.out])
     have HN:=Lib.hid hN
     have HS0:Hid (DecRel br w3.heap.size vd nx t1.2.1 t1.2.2 N F0 w0 (Cells w1.heap.size #[.int .i64 kd,.int .i64 vd,.slice ab body.length cb] 74::RowA 5 1 (.slice ab body.length cb) body.length (u8s body)::Cells w.heap.size #[.int .i64 0,.int .i64 0,.slice none 0 0] 104::R) (.int .i64 0) w5):=Lib.hid ⟨0,_,rfl,Nat.zero_le _,G5.out⟩
     clear hN NX
     by_cases hk65:num t1.1≤65
     ·have hkN:num t1.1=N:=by rw [← HN.out];omega
      rw [hkN] at hk16 ⊢
      clear hk65 hkN G5
      go_wp2_with fail
      go_loopw [53] (DecRel br w3.heap.size vd nx t1.2.1 t1.2.2 N F0 w0 (Cells w1.heap.size #[.int .i64 kd,.int .i64 vd,.slice ab body.length cb] 74::RowA 5 1 (.slice ab body.length cb) body.length (u8s body)::Cells w.heap.size #[.int .i64 0,.int .i64 0,.slice none 0 0] 104::R)) (fun k _=>N - (intOf k).toNat)
      case atStart=>exact HS0.out
      case round=>
       obtain⟨j,vv,rfl,hj,ho⟩:=hrel
       clear HS0
       obtain⟨Fr,hr⟩:=ho.get 2 rfl
       obtain⟨av,cv,rfl,-,-,-⟩:=hr.shape
       have hln:(rdAt j t1.2.1 t1.2.2).1.length=j:=rdAt_length _ _ _
       rw [hln] at ho
       clear hr
       have mk:=ho.block 1 rfl
       by_cases hlt:j < N
       ·have hlt':(j:Int) < (N:Int):=by omega
        have hst:rdAt (j+1) t1.2.1 t1.2.2=((rdAt j t1.2.1 t1.2.2).1++[num (rdTake (rdAt j t1.2.1 t1.2.2).2.1 (rdAt j t1.2.1 t1.2.2).2.2 4).1],(rdTake (rdAt j t1.2.1 t1.2.2).2.1 (rdAt j t1.2.1 t1.2.2).2.2 4).2):=rfl
        have HST:=Lib.hid hst
        have HLN:=Lib.hid hln
        have hn4':num (rdTake (rdAt j t1.2.1 t1.2.2).2.1 (rdAt j t1.2.1 t1.2.2).2.2 4).1 < 4294967296:=by
         have:=num_lt_of (rdTake_len (rdAt j t1.2.1 t1.2.2).2.1 (rdAt j t1.2.1 t1.2.2).2.2 4)
         simpa using this
        have c2:wr.cell? ⟨w3.heap.size,2,none⟩=some (.slice av j cv):=cell_of mk rfl
        have K6:=Lib.hid (o_ru32 (ho.drewN 1) 0 rfl)
        clear ho mk hst hln hlt
        generalize rdAt j t1.2.1 t1.2.2=st at *
        obtain⟨sg,lj,ej⟩:=st
        simp only at hn4' K6 HLN HST
        obtain⟨xn,hxn⟩:∃ xn,num (rdTake lj ej 4).1=xn:=⟨_,rfl⟩
        rw [hxn] at hn4' K6 HST
        have hw:IntKind.i64.wrap (xn:Int)=xn:=by rw [IntKind.wrap_i64];omega
        clear hxn
        go_wp2_with fail
        go_region_law
         (first
          | (try go_simp
             go_at_call 138
             refine K6.out.mono ?_
             rintro e w6 ⟨rfl,g6⟩
             have mk6:=g6.block 1 rfl
             have e2:w6.cell? ⟨w3.heap.size,2,none⟩=some (.slice av j cv):=cell_of mk6 rfl
             have e2':∀ C T,(w6.alloc (.cells C T)).cell? ⟨w3.heap.size,2,none⟩=some (.slice av j cv):=fun C T=>cell_of ((hp_alloc_old (hp_lt mk6)).trans mk6) rfl
             have HG6:=Lib.hid g6
             clear g6 mk6)
          | (refine app_step rfl (R:=Cells _ _ 3::RdA br _ _::Cells w3.heap.size _ 104::RowA 3 1 (.slice av j cv) j (segV sg)::(Cells w1.heap.size #[.int .i64 kd,.int .i64 vd,.slice ab body.length cb] 74::RowA 5 1 (.slice ab body.length cb) body.length (u8s body)::Cells w.heap.size #[.int .i64 0,.int .i64 0,.slice none 0 0] 104::R)) (by exact HG6.out.cells _ _) 3 rfl (.tmp 56) (.tmp 60) 102 (by rfl) Tryz.underlying102 infoInt (by decide) (by decide) (by rfl) (by rfl) (by exact Src.of_block ((HG6.out.cells _ _).block 0 rfl) rfl) (fun u hu=>by simp at hu;subst hu;rfl) (by omega) ?_
             intro v1 w7 ho1 hg1
             have mk7:=ho1.block 2 rfl
             have e3:w7.cell? ⟨w3.heap.size,2,none⟩=some (.slice av j cv):=cell_of mk7 rfl
             have f3:w7.frozen? ⟨w3.heap.size,2,none⟩=false:=free_of mk7
             obtain⟨F7,hr7⟩:=ho1.get 3 rfl
             obtain⟨a7,c7,rfl,-,-,-⟩:=hr7.shape
             have HO1:=Lib.hid ho1
             clear ho1 hg1 mk7 hr7))
        all_goals
         have h8:=(HO1.out.put 2 rfl 2 (.slice a7 (j+1) c7)).drop
         have HR:Hid (DecRel br w3.heap.size vd nx t1.2.1 t1.2.2 N F0 w0 (Cells w1.heap.size #[.int .i64 kd,.int .i64 vd,.slice ab body.length cb] 74::RowA 5 1 (.slice ab body.length cb) body.length (u8s body)::Cells w.heap.size #[.int .i64 0,.int .i64 0,.slice none 0 0] 104::R) (.int .i64 (j+1)) (w7.setCell ⟨w3.heap.size,2,none⟩ (.slice a7 (j+1) c7))):=Lib.hid ⟨j+1,_,by go_num,by omega,by
          rw [HST.out]
          simp only [List.length_append,HLN.out,List.length_cons,List.length_nil]
          have e:segV (sg++[xn])=segV sg++[.int .i64 xn]:=by simp [segV]
          rw [e]
          exact h8⟩
         clear h8 HO1
         go_wp2_with fail
         go_roundw
         case rel=>exact HR.out
         case measure=>simp [intOf];omega
       ·have hjN:j=N:=by omega
        have hge:(N:Int)≤(j:Int):=by omega
        have hle:(rdAt j t1.2.1 t1.2.2).2.1.length≤100000000:=by
         have h1:=rdAt_le t1.2.1 t1.2.2 j
         have h2:t1.2.1.length≤body.length:=by
          rw [← T1.out]
          exact Nat.le_trans (rdTake_le _ _ _) (rdTake_le _ _ _)
         omega
        have K7:=Lib.hid (o_rend ho 0 rfl hle)
        have hdr:=HDR.out
        rw [← hjN] at hdr
        have HM3:Hid (manDec b=if endE (rdAt j t1.2.1 t1.2.2).2.1 (rdAt j t1.2.1 t1.2.2).2.2=0∧mayM ⟨vd,nx,(rdAt j t1.2.1 t1.2.2).1⟩ then (⟨vd,nx,(rdAt j t1.2.1 t1.2.2).1⟩,0) else (zeroMan,3)):=Lib.hid (by rw [HM2.out,hdr])
        have HOJ:Hid (In F0 w0 wr (RdA br (rdAt j t1.2.1 t1.2.2).2.1 (rdAt j t1.2.1 t1.2.2).2.2::Cells w3.heap.size #[.int .i64 vd,.int .i64 nx,.slice av j cv] 104::RowA 3 1 (.slice av j cv) j (segV (rdAt j t1.2.1 t1.2.2).1)::(Cells w1.heap.size #[.int .i64 kd,.int .i64 vd,.slice ab body.length cb] 74::RowA 5 1 (.slice ab body.length cb) body.length (u8s body)::Cells w.heap.size #[.int .i64 0,.int .i64 0,.slice none 0 0] 104::R))):=Lib.hid ho
        have HLN:=Lib.hid hln
        clear ho mk hdr hln HM2 HDR hlt hle hjN
        generalize rdAt j t1.2.1 t1.2.2=st at *
        obtain⟨sg,lN,eN⟩:=st
        simp only at K7 HM3 HLN HOJ
        have HFIN:Hid (∀ w',In F0 w0 w' (RdA br lN eN::Cells w3.heap.size #[.int .i64 vd,.int .i64 nx,.slice av j cv] 104::RowA 3 1 (.slice av j cv) j (segV sg)::(Cells w1.heap.size #[.int .i64 kd,.int .i64 vd,.slice ab body.length cb] 74::RowA 5 1 (.slice ab body.length cb) body.length (u8s body)::Cells w.heap.size #[.int .i64 0,.int .i64 0,.slice none 0 0] 104::R)) →
          w'.cell? ⟨w.heap.size,0,none⟩=some (.int .i64 0)∧w'.cell? ⟨w.heap.size,1,none⟩=some (.int .i64 0)∧w'.cell? ⟨w.heap.size,2,none⟩=some (.slice none 0 0) ∧
          w'.frozen? ⟨w.heap.size,0,none⟩=false∧w'.frozen? ⟨w.heap.size,1,none⟩=false∧w'.frozen? ⟨w.heap.size,2,none⟩=false ∧
          w'.cell? ⟨w3.heap.size,0,none⟩=some (.int .i64 vd)∧w'.cell? ⟨w3.heap.size,1,none⟩=some (.int .i64 nx)∧w'.cell? ⟨w3.heap.size,2,none⟩=some (.slice av j cv) ∧
          (∀ x,(w'.setCell ⟨w.heap.size,0,none⟩ x).cell? ⟨w.heap.size,0,none⟩=some x)∧(∀ x y,((w'.setCell ⟨w.heap.size,0,none⟩ x).setCell ⟨w.heap.size,1,none⟩ y).cell? ⟨w.heap.size,1,none⟩=some y)∧(∀ x y z,(((w'.setCell ⟨w.heap.size,0,none⟩ x).setCell ⟨w.heap.size,1,none⟩ y).setCell ⟨w.heap.size,2,none⟩ z).cell? ⟨w.heap.size,2,none⟩=some z) ∧
          (manDec b=(zeroMan,3)→DecPost b F0 w0 R (.returned (.tuple #[.agg #[.int .i64 0,.int .i64 0,.slice none 0 0],.int .i64 3])) (((w'.setCell ⟨w.heap.size,0,none⟩ (.int .i64 0)).setCell ⟨w.heap.size,1,none⟩ (.int .i64 0)).setCell ⟨w.heap.size,2,none⟩ (.slice none 0 0))) ∧
          (manDec b=(⟨vd,nx,sg⟩,0)→DecPost b F0 w0 R (.returned (.tuple #[.agg #[.int .i64 vd,.int .i64 nx,.slice av j cv],.int .i64 0])) (((w'.setCell ⟨w.heap.size,0,none⟩ (.int .i64 vd)).setCell ⟨w.heap.size,1,none⟩ (.int .i64 nx)).setCell ⟨w.heap.size,2,none⟩ (.slice av j cv)))):=Lib.hid fun w' h'=>by
         have bk:=h'.block 5 rfl
         have mk:=h'.block 1 rfl
         refine⟨cell_of bk rfl,cell_of bk rfl,cell_of bk rfl,free_of bk,free_of bk,free_of bk,cell_of mk rfl,cell_of mk rfl,cell_of mk rfl,fun x=>set_cell_same bk (by simp) x,fun x y=>set_cell_same (hp_setCell_same bk) (by simp) y,fun x y z=>set_cell_same (hp_setCell_same (hp_setCell_same bk)) (by simp) z,fun he=>?_,fun he=>?_⟩
         ·refine⟨_,by rw [he];rfl,?_⟩
          rw [he]
          have h9:=((h'.put 5 rfl 0 (.int .i64 0)).put 5 rfl 1 (.int .i64 0)).put 5 rfl 2 (.slice none 0 0)
          exact (In.right (R1:=[_,_,_,_,_,_]) h9).rownil _ _
         ·refine⟨.slice av j cv,by rw [he],?_⟩
          rw [he]
          have h9:=((h'.put 5 rfl 0 (.int .i64 vd)).put 5 rfl 1 (.int .i64 nx)).put 5 rfl 2 (.slice av j cv)
          simp only
          rw [HLN.out]
          exact h9.sel2 (R1:=[_,_,_,_,_,_]) [2] (by decide) rfl
        have K8:=o_may HOJ.out ⟨vd,nx,sg⟩ (A:=av) (c:=cv) (fun w' h'=>by
         obtain⟨F',r'⟩:=h'.get 2 rfl
         show Src w' av sg.length 1 (segV sg)
         rw [HLN.out]
         exact r'.all) (by show sg.length≤_;rw [HLN.out];omega)
        unfold manAgg at K8
        simp only [HLN.out] at K8
        have K8h:=Lib.hid K8
        obtain⟨-,-,-,-,-,-,a0,a1,a2,-⟩:=HFIN.out wr HOJ.out
        clear K8
        by_cases hend:endE lN eN=0
        ·rw [hend] at K7
         cases hmy:mayM ⟨vd,nx,sg⟩ with
         | true=>
          have HE:=Lib.hid (And.intro hend hmy)
          rw [hmy] at K8h
          clear hend hmy
          go_wp2_with fail
          refine K7.out.mono ?_
          rintro e w9 ⟨rfl,rfl⟩
          clear K7
          go_wp2_with fail
          refine K8h.out.mono ?_
          rintro e w10 ⟨rfl,g10⟩
          obtain⟨d0,d1,d2,f0,f1,f2,b0,b1,b2,y0,y1,y2,herr,hok⟩:=HFIN.out w10 g10
          have HR:=Lib.hid (hok (by rw [HM3.out,if_pos HE.out]))
          have Y:=Lib.hid (And.intro y0 (And.intro y1 y2))
          clear g10 K8h HFIN HM3 HE y0 y1 y2 herr hok HOJ a0 a1 a2
          go_wp2_with fail
          exact bodyPost_ret (v:=.tuple #[.agg #[.int .i64 vd,.int .i64 nx,.slice av j cv],.int .i64 0]) (by simp [results,Tryz.results82,go_sem,Y.out.1,Y.out.2.1,Y.out.2.2]) rfl HR.out
         | false=>
          have HE:Hid (manDec b=(zeroMan,3)):=Lib.hid (by rw [HM3.out,if_neg (by rw [hmy];simp)])
          rw [hmy] at K8h
          clear hend hmy
          go_wp2_with fail
          refine K7.out.mono ?_
          rintro e w9 ⟨rfl,rfl⟩
          clear K7
          go_wp2_with fail
          refine K8h.out.mono ?_
          rintro e w10 ⟨rfl,g10⟩
          obtain⟨d0,d1,d2,f0,f1,f2,b0,b1,b2,y0,y1,y2,herr,hok⟩:=HFIN.out w10 g10
          have HR:=Lib.hid (herr HE.out)
          have Y:=Lib.hid (And.intro y0 (And.intro y1 y2))
          clear g10 K8h HFIN HM3 HE y0 y1 y2 herr hok HOJ a0 a1 a2
          go_wp2_with fail
          exact bodyPost_ret (v:=.tuple #[.agg #[.int .i64 0,.int .i64 0,.slice none 0 0],.int .i64 3]) (by simp [results,Tryz.results82,go_sem,Y.out.1,Y.out.2.1,Y.out.2.2]) rfl HR.out
        ·have HE:Hid (manDec b=(zeroMan,3)):=Lib.hid (by rw [HM3.out,if_neg (fun h=>hend h.1)])
         have q9:(endE lN eN != 0)=true:=by rw [bne_iff_ne];exact hend
         obtain⟨d0,d1,d2,f0,f1,f2,b0,b1,b2,y0,y1,y2,herr,hok⟩:=HFIN.out wr HOJ.out
         have HR:=Lib.hid (herr HE.out)
         have Y:=Lib.hid (And.intro y0 (And.intro y1 y2))
         clear K8h HFIN HM3 HE y0 y1 y2 herr hok HOJ a0 a1 a2 hend
         generalize endE lN eN=ee at *
         go_wp2_with fail
         refine K7.out.mono ?_
         rintro e w9 ⟨rfl,rfl⟩
         clear K7
         go_wp2_with fail
         exact bodyPost_ret (v:=.tuple #[.agg #[.int .i64 0,.int .i64 0,.slice none 0 0],.int .i64 3]) (by simp [results,Tryz.results82,go_sem,Y.out.1,Y.out.2.1,Y.out.2.2]) rfl HR.out
     ·have hkN:N=65:=by rw [← HN.out];omega
      subst hkN
      have q5:(65:Int) < ((num t1.1:Nat):Int):=by omega
      clear hk65 G5
      generalize num t1.1=kk at *
      go_wp2_with fail
      go_loopw [53] (DecRel br w3.heap.size vd nx t1.2.1 t1.2.2 65 F0 w0 (Cells w1.heap.size #[.int .i64 kd,.int .i64 vd,.slice ab body.length cb] 74::RowA 5 1 (.slice ab body.length cb) body.length (u8s body)::Cells w.heap.size #[.int .i64 0,.int .i64 0,.slice none 0 0] 104::R)) (fun k _=>65 - (intOf k).toNat)
      case atStart=>exact HS0.out
      case round=>
       obtain⟨j,vv,rfl,hj,ho⟩:=hrel
       clear HS0
       obtain⟨Fr,hr⟩:=ho.get 2 rfl
       obtain⟨av,cv,rfl,-,-,-⟩:=hr.shape
       have hln:(rdAt j t1.2.1 t1.2.2).1.length=j:=rdAt_length _ _ _
       rw [hln] at ho
       clear hr
       have mk:=ho.block 1 rfl
       by_cases hlt:j < 65
       ·have hlt':(j:Int) < (65:Int):=by omega
        have hst:rdAt (j+1) t1.2.1 t1.2.2=((rdAt j t1.2.1 t1.2.2).1++[num (rdTake (rdAt j t1.2.1 t1.2.2).2.1 (rdAt j t1.2.1 t1.2.2).2.2 4).1],(rdTake (rdAt j t1.2.1 t1.2.2).2.1 (rdAt j t1.2.1 t1.2.2).2.2 4).2):=rfl
        have HST:=Lib.hid hst
        have HLN:=Lib.hid hln
        have hn4':num (rdTake (rdAt j t1.2.1 t1.2.2).2.1 (rdAt j t1.2.1 t1.2.2).2.2 4).1 < 4294967296:=by
         have:=num_lt_of (rdTake_len (rdAt j t1.2.1 t1.2.2).2.1 (rdAt j t1.2.1 t1.2.2).2.2 4)
         simpa using this
        have c2:wr.cell? ⟨w3.heap.size,2,none⟩=some (.slice av j cv):=cell_of mk rfl
        have K6:=Lib.hid (o_ru32 (ho.drewN 1) 0 rfl)
        clear ho mk hst hln hlt
        generalize rdAt j t1.2.1 t1.2.2=st at *
        obtain⟨sg,lj,ej⟩:=st
        simp only at hn4' K6 HLN HST
        obtain⟨xn,hxn⟩:∃ xn,num (rdTake lj ej 4).1=xn:=⟨_,rfl⟩
        rw [hxn] at hn4' K6 HST
        have hw:IntKind.i64.wrap (xn:Int)=xn:=by rw [IntKind.wrap_i64];omega
        clear hxn
        go_wp2_with fail
        go_region_law
         (first
          | (try go_simp
             go_at_call 138
             refine K6.out.mono ?_
             rintro e w6 ⟨rfl,g6⟩
             have mk6:=g6.block 1 rfl
             have e2:w6.cell? ⟨w3.heap.size,2,none⟩=some (.slice av j cv):=cell_of mk6 rfl
             have e2':∀ C T,(w6.alloc (.cells C T)).cell? ⟨w3.heap.size,2,none⟩=some (.slice av j cv):=fun C T=>cell_of ((hp_alloc_old (hp_lt mk6)).trans mk6) rfl
             have HG6:=Lib.hid g6
             clear g6 mk6)
          | (refine app_step rfl (R:=Cells _ _ 3::RdA br _ _::Cells w3.heap.size _ 104::RowA 3 1 (.slice av j cv) j (segV sg)::(Cells w1.heap.size #[.int .i64 kd,.int .i64 vd,.slice ab body.length cb] 74::RowA 5 1 (.slice ab body.length cb) body.length (u8s body)::Cells w.heap.size #[.int .i64 0,.int .i64 0,.slice none 0 0] 104::R)) (by exact HG6.out.cells _ _) 3 rfl (.tmp 56) (.tmp 60) 102 (by rfl) Tryz.underlying102 infoInt (by decide) (by decide) (by rfl) (by rfl) (by exact Src.of_block ((HG6.out.cells _ _).block 0 rfl) rfl) (fun u hu=>by simp at hu;subst hu;rfl) (by omega) ?_
             intro v1 w7 ho1 hg1
             have mk7:=ho1.block 2 rfl
             have e3:w7.cell? ⟨w3.heap.size,2,none⟩=some (.slice av j cv):=cell_of mk7 rfl
             have f3:w7.frozen? ⟨w3.heap.size,2,none⟩=false:=free_of mk7
             obtain⟨F7,hr7⟩:=ho1.get 3 rfl
             obtain⟨a7,c7,rfl,-,-,-⟩:=hr7.shape
             have HO1:=Lib.hid ho1
             clear ho1 hg1 mk7 hr7))
        all_goals
         have h8:=(HO1.out.put 2 rfl 2 (.slice a7 (j+1) c7)).drop
         have HR:Hid (DecRel br w3.heap.size vd nx t1.2.1 t1.2.2 65 F0 w0 (Cells w1.heap.size #[.int .i64 kd,.int .i64 vd,.slice ab body.length cb] 74::RowA 5 1 (.slice ab body.length cb) body.length (u8s body)::Cells w.heap.size #[.int .i64 0,.int .i64 0,.slice none 0 0] 104::R) (.int .i64 (j+1)) (w7.setCell ⟨w3.heap.size,2,none⟩ (.slice a7 (j+1) c7))):=Lib.hid ⟨j+1,_,by go_num,by omega,by
          rw [HST.out]
          simp only [List.length_append,HLN.out,List.length_cons,List.length_nil]
          have e:segV (sg++[xn])=segV sg++[.int .i64 xn]:=by simp [segV]
          rw [e]
          exact h8⟩
         clear h8 HO1
         go_wp2_with fail
         go_roundw
         case rel=>exact HR.out
         case measure=>simp [intOf];omega
       ·have hjN:j=65:=by omega
        have hge:(65:Int)≤(j:Int):=by omega
        have hle:(rdAt j t1.2.1 t1.2.2).2.1.length≤100000000:=by
         have h1:=rdAt_le t1.2.1 t1.2.2 j
         have h2:t1.2.1.length≤body.length:=by
          rw [← T1.out]
          exact Nat.le_trans (rdTake_le _ _ _) (rdTake_le _ _ _)
         omega
        have K7:=Lib.hid (o_rend ho 0 rfl hle)
        have hdr:=HDR.out
        rw [← hjN] at hdr
        have HM3:Hid (manDec b=if endE (rdAt j t1.2.1 t1.2.2).2.1 (rdAt j t1.2.1 t1.2.2).2.2=0∧mayM ⟨vd,nx,(rdAt j t1.2.1 t1.2.2).1⟩ then (⟨vd,nx,(rdAt j t1.2.1 t1.2.2).1⟩,0) else (zeroMan,3)):=Lib.hid (by rw [HM2.out,hdr])
        have HOJ:Hid (In F0 w0 wr (RdA br (rdAt j t1.2.1 t1.2.2).2.1 (rdAt j t1.2.1 t1.2.2).2.2::Cells w3.heap.size #[.int .i64 vd,.int .i64 nx,.slice av j cv] 104::RowA 3 1 (.slice av j cv) j (segV (rdAt j t1.2.1 t1.2.2).1)::(Cells w1.heap.size #[.int .i64 kd,.int .i64 vd,.slice ab body.length cb] 74::RowA 5 1 (.slice ab body.length cb) body.length (u8s body)::Cells w.heap.size #[.int .i64 0,.int .i64 0,.slice none 0 0] 104::R))):=Lib.hid ho
        have HLN:=Lib.hid hln
        clear ho mk hdr hln HM2 HDR hlt hle hjN
        generalize rdAt j t1.2.1 t1.2.2=st at *
        obtain⟨sg,lN,eN⟩:=st
        simp only at K7 HM3 HLN HOJ
        have HFIN:Hid (∀ w',In F0 w0 w' (RdA br lN eN::Cells w3.heap.size #[.int .i64 vd,.int .i64 nx,.slice av j cv] 104::RowA 3 1 (.slice av j cv) j (segV sg)::(Cells w1.heap.size #[.int .i64 kd,.int .i64 vd,.slice ab body.length cb] 74::RowA 5 1 (.slice ab body.length cb) body.length (u8s body)::Cells w.heap.size #[.int .i64 0,.int .i64 0,.slice none 0 0] 104::R)) →
          w'.cell? ⟨w.heap.size,0,none⟩=some (.int .i64 0)∧w'.cell? ⟨w.heap.size,1,none⟩=some (.int .i64 0)∧w'.cell? ⟨w.heap.size,2,none⟩=some (.slice none 0 0) ∧
          w'.frozen? ⟨w.heap.size,0,none⟩=false∧w'.frozen? ⟨w.heap.size,1,none⟩=false∧w'.frozen? ⟨w.heap.size,2,none⟩=false ∧
          w'.cell? ⟨w3.heap.size,0,none⟩=some (.int .i64 vd)∧w'.cell? ⟨w3.heap.size,1,none⟩=some (.int .i64 nx)∧w'.cell? ⟨w3.heap.size,2,none⟩=some (.slice av j cv) ∧
          (∀ x,(w'.setCell ⟨w.heap.size,0,none⟩ x).cell? ⟨w.heap.size,0,none⟩=some x)∧(∀ x y,((w'.setCell ⟨w.heap.size,0,none⟩ x).setCell ⟨w.heap.size,1,none⟩ y).cell? ⟨w.heap.size,1,none⟩=some y)∧(∀ x y z,(((w'.setCell ⟨w.heap.size,0,none⟩ x).setCell ⟨w.heap.size,1,none⟩ y).setCell ⟨w.heap.size,2,none⟩ z).cell? ⟨w.heap.size,2,none⟩=some z) ∧
          (manDec b=(zeroMan,3)→DecPost b F0 w0 R (.returned (.tuple #[.agg #[.int .i64 0,.int .i64 0,.slice none 0 0],.int .i64 3])) (((w'.setCell ⟨w.heap.size,0,none⟩ (.int .i64 0)).setCell ⟨w.heap.size,1,none⟩ (.int .i64 0)).setCell ⟨w.heap.size,2,none⟩ (.slice none 0 0))) ∧
          (manDec b=(⟨vd,nx,sg⟩,0)→DecPost b F0 w0 R (.returned (.tuple #[.agg #[.int .i64 vd,.int .i64 nx,.slice av j cv],.int .i64 0])) (((w'.setCell ⟨w.heap.size,0,none⟩ (.int .i64 vd)).setCell ⟨w.heap.size,1,none⟩ (.int .i64 nx)).setCell ⟨w.heap.size,2,none⟩ (.slice av j cv)))):=Lib.hid fun w' h'=>by
         have bk:=h'.block 5 rfl
         have mk:=h'.block 1 rfl
         refine⟨cell_of bk rfl,cell_of bk rfl,cell_of bk rfl,free_of bk,free_of bk,free_of bk,cell_of mk rfl,cell_of mk rfl,cell_of mk rfl,fun x=>set_cell_same bk (by simp) x,fun x y=>set_cell_same (hp_setCell_same bk) (by simp) y,fun x y z=>set_cell_same (hp_setCell_same (hp_setCell_same bk)) (by simp) z,fun he=>?_,fun he=>?_⟩
         ·refine⟨_,by rw [he];rfl,?_⟩
          rw [he]
          have h9:=((h'.put 5 rfl 0 (.int .i64 0)).put 5 rfl 1 (.int .i64 0)).put 5 rfl 2 (.slice none 0 0)
          exact (In.right (R1:=[_,_,_,_,_,_]) h9).rownil _ _
         ·refine⟨.slice av j cv,by rw [he],?_⟩
          rw [he]
          have h9:=((h'.put 5 rfl 0 (.int .i64 vd)).put 5 rfl 1 (.int .i64 nx)).put 5 rfl 2 (.slice av j cv)
          simp only
          rw [HLN.out]
          exact h9.sel2 (R1:=[_,_,_,_,_,_]) [2] (by decide) rfl
        have K8:=o_may HOJ.out ⟨vd,nx,sg⟩ (A:=av) (c:=cv) (fun w' h'=>by
         obtain⟨F',r'⟩:=h'.get 2 rfl
         show Src w' av sg.length 1 (segV sg)
         rw [HLN.out]
         exact r'.all) (by show sg.length≤_;rw [HLN.out];omega)
        unfold manAgg at K8
        simp only [HLN.out] at K8
        have K8h:=Lib.hid K8
        obtain⟨-,-,-,-,-,-,a0,a1,a2,-⟩:=HFIN.out wr HOJ.out
        clear K8
        by_cases hend:endE lN eN=0
        ·rw [hend] at K7
         cases hmy:mayM ⟨vd,nx,sg⟩ with
         | true=>
          have HE:=Lib.hid (And.intro hend hmy)
          rw [hmy] at K8h
          clear hend hmy
          go_wp2_with fail
          refine K7.out.mono ?_
          rintro e w9 ⟨rfl,rfl⟩
          clear K7
          go_wp2_with fail
          refine K8h.out.mono ?_
          rintro e w10 ⟨rfl,g10⟩
          obtain⟨d0,d1,d2,f0,f1,f2,b0,b1,b2,y0,y1,y2,herr,hok⟩:=HFIN.out w10 g10
          have HR:=Lib.hid (hok (by rw [HM3.out,if_pos HE.out]))
          have Y:=Lib.hid (And.intro y0 (And.intro y1 y2))
          clear g10 K8h HFIN HM3 HE y0 y1 y2 herr hok HOJ a0 a1 a2
          go_wp2_with fail
          exact bodyPost_ret (v:=.tuple #[.agg #[.int .i64 vd,.int .i64 nx,.slice av j cv],.int .i64 0]) (by simp [results,Tryz.results82,go_sem,Y.out.1,Y.out.2.1,Y.out.2.2]) rfl HR.out
         | false=>
          have HE:Hid (manDec b=(zeroMan,3)):=Lib.hid (by rw [HM3.out,if_neg (by rw [hmy];simp)])
          rw [hmy] at K8h
          clear hend hmy
          go_wp2_with fail
          refine K7.out.mono ?_
          rintro e w9 ⟨rfl,rfl⟩
          clear K7
          go_wp2_with fail
          refine K8h.out.mono ?_
          rintro e w10 ⟨rfl,g10⟩
          obtain⟨d0,d1,d2,f0,f1,f2,b0,b1,b2,y0,y1,y2,herr,hok⟩:=HFIN.out w10 g10
          have HR:=Lib.hid (herr HE.out)
          have Y:=Lib.hid (And.intro y0 (And.intro y1 y2))
          clear g10 K8h HFIN HM3 HE y0 y1 y2 herr hok HOJ a0 a1 a2
          go_wp2_with fail
          exact bodyPost_ret (v:=.tuple #[.agg #[.int .i64 0,.int .i64 0,.slice none 0 0],.int .i64 3]) (by simp [results,Tryz.results82,go_sem,Y.out.1,Y.out.2.1,Y.out.2.2]) rfl HR.out
        ·have HE:Hid (manDec b=(zeroMan,3)):=Lib.hid (by rw [HM3.out,if_neg (fun h=>hend h.1)])
         have q9:(endE lN eN != 0)=true:=by rw [bne_iff_ne];exact hend
         obtain⟨d0,d1,d2,f0,f1,f2,b0,b1,b2,y0,y1,y2,herr,hok⟩:=HFIN.out wr HOJ.out
         have HR:=Lib.hid (herr HE.out)
         have Y:=Lib.hid (And.intro y0 (And.intro y1 y2))
         clear K8h HFIN HM3 HE y0 y1 y2 herr hok HOJ a0 a1 a2 hend
         generalize endE lN eN=ee at *
         go_wp2_with fail
         refine K7.out.mono ?_
         rintro e w9 ⟨rfl,rfl⟩
         clear K7
         go_wp2_with fail
         exact bodyPost_ret (v:=.tuple #[.agg #[.int .i64 0,.int .i64 0,.slice none 0 0],.int .i64 3]) (by simp [results,Tryz.results82,go_sem,Y.out.1,Y.out.2.1,Y.out.2.2]) rfl HR.out
    ·have g4:=(((g3.put 1 rfl 0 (.int .i64 vd)).put 1 rfl 1 (.int .i64 nx)).put 1 rfl 2 (.slice none 0 0)).rownil 3 1
     have g4:=In.sel2 (R1:=[_,_,_]) g4 [1,2,0] (by decide) rfl
     have G4:=Lib.hid g4
     have K4:=Lib.hid (o_ru16 g4 0 rfl)
     have hk16:num (rdTake (rdTake body 0 4).2.1 (rdTake body 0 4).2.2 2).1 < 65536:=by
      have:=num_lt_of (rdTake_len (rdTake body 0 4).2.1 (rdTake body 0 4).2.2 2)
      simpa using this
     clear g3 g4
     go_wp2_with fail
     refine K4.out.mono ?_
     rintro e w5 ⟨rfl,g5⟩
     have G5:=Lib.hid g5
     clear g5 K4 G4
     obtain⟨t1,ht1⟩:∃ t1,rdTake (rdTake body 0 4).2.1 (rdTake body 0 4).2.2 2=t1:=⟨_,rfl⟩
     simp only [ht1] at hk16 G5 ⊢
     have T1:=Lib.hid ht1
     clear ht1
     obtain⟨N,hN⟩:∃ N,min (num t1.1) 65=N:=⟨_,rfl⟩
     have hN65:N≤65:=by omega
     have HDR:Hid (decR vd body=(⟨vd,nx,(rdAt N t1.2.1 t1.2.2).1⟩,(rdAt N t1.2.1 t1.2.2).2)):=Lib.hid (by
      unfold decR;simp only;rw [T1.out,hN,NX.out])
     have HN:=Lib.hid hN
     have HS0:Hid (DecRel br w2.heap.size vd nx t1.2.1 t1.2.2 N F0 w0 (Cells w1.heap.size #[.int .i64 kd,.int .i64 vd,.slice ab body.length cb] 74::RowA 5 1 (.slice ab body.length cb) body.length (u8s body)::Cells w.heap.size #[.int .i64 0,.int .i64 0,.slice none 0 0] 104::R) (.int .i64 0) w5):=Lib.hid ⟨0,_,rfl,Nat.zero_le _,G5.out⟩
     clear hN NX
     by_cases hk65:num t1.1≤65
     ·have hkN:num t1.1=N:=by rw [← HN.out];omega
      rw [hkN] at hk16 ⊢
      clear hk65 hkN G5
      go_wp2_with fail
      go_loopw [53] (DecRel br w2.heap.size vd nx t1.2.1 t1.2.2 N F0 w0 (Cells w1.heap.size #[.int .i64 kd,.int .i64 vd,.slice ab body.length cb] 74::RowA 5 1 (.slice ab body.length cb) body.length (u8s body)::Cells w.heap.size #[.int .i64 0,.int .i64 0,.slice none 0 0] 104::R)) (fun k _=>N - (intOf k).toNat)
      case atStart=>exact HS0.out
      case round=>
       obtain⟨j,vv,rfl,hj,ho⟩:=hrel
       clear HS0
       obtain⟨Fr,hr⟩:=ho.get 2 rfl
       obtain⟨av,cv,rfl,-,-,-⟩:=hr.shape
       have hln:(rdAt j t1.2.1 t1.2.2).1.length=j:=rdAt_length _ _ _
       rw [hln] at ho
       clear hr
       have mk:=ho.block 1 rfl
       by_cases hlt:j < N
       ·have hlt':(j:Int) < (N:Int):=by omega
        have hst:rdAt (j+1) t1.2.1 t1.2.2=((rdAt j t1.2.1 t1.2.2).1++[num (rdTake (rdAt j t1.2.1 t1.2.2).2.1 (rdAt j t1.2.1 t1.2.2).2.2 4).1],(rdTake (rdAt j t1.2.1 t1.2.2).2.1 (rdAt j t1.2.1 t1.2.2).2.2 4).2):=rfl
        have HST:=Lib.hid hst
        have HLN:=Lib.hid hln
        have hn4':num (rdTake (rdAt j t1.2.1 t1.2.2).2.1 (rdAt j t1.2.1 t1.2.2).2.2 4).1 < 4294967296:=by
         have:=num_lt_of (rdTake_len (rdAt j t1.2.1 t1.2.2).2.1 (rdAt j t1.2.1 t1.2.2).2.2 4)
         simpa using this
        have c2:wr.cell? ⟨w2.heap.size,2,none⟩=some (.slice av j cv):=cell_of mk rfl
        have K6:=Lib.hid (o_ru32 (ho.drewN 1) 0 rfl)
        clear ho mk hst hln hlt
        generalize rdAt j t1.2.1 t1.2.2=st at *
        obtain⟨sg,lj,ej⟩:=st
        simp only at hn4' K6 HLN HST
        obtain⟨xn,hxn⟩:∃ xn,num (rdTake lj ej 4).1=xn:=⟨_,rfl⟩
        rw [hxn] at hn4' K6 HST
        have hw:IntKind.i64.wrap (xn:Int)=xn:=by rw [IntKind.wrap_i64];omega
        clear hxn
        go_wp2_with fail
        go_region_law
         (first
          | (try go_simp
             go_at_call 138
             refine K6.out.mono ?_
             rintro e w6 ⟨rfl,g6⟩
             have mk6:=g6.block 1 rfl
             have e2:w6.cell? ⟨w2.heap.size,2,none⟩=some (.slice av j cv):=cell_of mk6 rfl
             have e2':∀ C T,(w6.alloc (.cells C T)).cell? ⟨w2.heap.size,2,none⟩=some (.slice av j cv):=fun C T=>cell_of ((hp_alloc_old (hp_lt mk6)).trans mk6) rfl
             have HG6:=Lib.hid g6
             clear g6 mk6)
          | (refine app_step rfl (R:=Cells _ _ 3::RdA br _ _::Cells w2.heap.size _ 104::RowA 3 1 (.slice av j cv) j (segV sg)::(Cells w1.heap.size #[.int .i64 kd,.int .i64 vd,.slice ab body.length cb] 74::RowA 5 1 (.slice ab body.length cb) body.length (u8s body)::Cells w.heap.size #[.int .i64 0,.int .i64 0,.slice none 0 0] 104::R)) (by exact HG6.out.cells _ _) 3 rfl (.tmp 56) (.tmp 60) 102 (by rfl) Tryz.underlying102 infoInt (by decide) (by decide) (by rfl) (by rfl) (by exact Src.of_block ((HG6.out.cells _ _).block 0 rfl) rfl) (fun u hu=>by simp at hu;subst hu;rfl) (by omega) ?_
             intro v1 w7 ho1 hg1
             have mk7:=ho1.block 2 rfl
             have e3:w7.cell? ⟨w2.heap.size,2,none⟩=some (.slice av j cv):=cell_of mk7 rfl
             have f3:w7.frozen? ⟨w2.heap.size,2,none⟩=false:=free_of mk7
             obtain⟨F7,hr7⟩:=ho1.get 3 rfl
             obtain⟨a7,c7,rfl,-,-,-⟩:=hr7.shape
             have HO1:=Lib.hid ho1
             clear ho1 hg1 mk7 hr7))
        all_goals
         have h8:=(HO1.out.put 2 rfl 2 (.slice a7 (j+1) c7)).drop
         have HR:Hid (DecRel br w2.heap.size vd nx t1.2.1 t1.2.2 N F0 w0 (Cells w1.heap.size #[.int .i64 kd,.int .i64 vd,.slice ab body.length cb] 74::RowA 5 1 (.slice ab body.length cb) body.length (u8s body)::Cells w.heap.size #[.int .i64 0,.int .i64 0,.slice none 0 0] 104::R) (.int .i64 (j+1)) (w7.setCell ⟨w2.heap.size,2,none⟩ (.slice a7 (j+1) c7))):=Lib.hid ⟨j+1,_,by go_num,by omega,by
          rw [HST.out]
          simp only [List.length_append,HLN.out,List.length_cons,List.length_nil]
          have e:segV (sg++[xn])=segV sg++[.int .i64 xn]:=by simp [segV]
          rw [e]
          exact h8⟩
         clear h8 HO1
         go_wp2_with fail
         go_roundw
         case rel=>exact HR.out
         case measure=>simp [intOf];omega
       ·have hjN:j=N:=by omega
        have hge:(N:Int)≤(j:Int):=by omega
        have hle:(rdAt j t1.2.1 t1.2.2).2.1.length≤100000000:=by
         have h1:=rdAt_le t1.2.1 t1.2.2 j
         have h2:t1.2.1.length≤body.length:=by
          rw [← T1.out]
          exact Nat.le_trans (rdTake_le _ _ _) (rdTake_le _ _ _)
         omega
        have K7:=Lib.hid (o_rend ho 0 rfl hle)
        have hdr:=HDR.out
        rw [← hjN] at hdr
        have HM3:Hid (manDec b=if endE (rdAt j t1.2.1 t1.2.2).2.1 (rdAt j t1.2.1 t1.2.2).2.2=0∧mayM ⟨vd,nx,(rdAt j t1.2.1 t1.2.2).1⟩ then (⟨vd,nx,(rdAt j t1.2.1 t1.2.2).1⟩,0) else (zeroMan,3)):=Lib.hid (by rw [HM2.out,hdr])
        have HOJ:Hid (In F0 w0 wr (RdA br (rdAt j t1.2.1 t1.2.2).2.1 (rdAt j t1.2.1 t1.2.2).2.2::Cells w2.heap.size #[.int .i64 vd,.int .i64 nx,.slice av j cv] 104::RowA 3 1 (.slice av j cv) j (segV (rdAt j t1.2.1 t1.2.2).1)::(Cells w1.heap.size #[.int .i64 kd,.int .i64 vd,.slice ab body.length cb] 74::RowA 5 1 (.slice ab body.length cb) body.length (u8s body)::Cells w.heap.size #[.int .i64 0,.int .i64 0,.slice none 0 0] 104::R))):=Lib.hid ho
        have HLN:=Lib.hid hln
        clear ho mk hdr hln HM2 HDR hlt hle hjN
        generalize rdAt j t1.2.1 t1.2.2=st at *
        obtain⟨sg,lN,eN⟩:=st
        simp only at K7 HM3 HLN HOJ
        have HFIN:Hid (∀ w',In F0 w0 w' (RdA br lN eN::Cells w2.heap.size #[.int .i64 vd,.int .i64 nx,.slice av j cv] 104::RowA 3 1 (.slice av j cv) j (segV sg)::(Cells w1.heap.size #[.int .i64 kd,.int .i64 vd,.slice ab body.length cb] 74::RowA 5 1 (.slice ab body.length cb) body.length (u8s body)::Cells w.heap.size #[.int .i64 0,.int .i64 0,.slice none 0 0] 104::R)) →
          w'.cell? ⟨w.heap.size,0,none⟩=some (.int .i64 0)∧w'.cell? ⟨w.heap.size,1,none⟩=some (.int .i64 0)∧w'.cell? ⟨w.heap.size,2,none⟩=some (.slice none 0 0) ∧
          w'.frozen? ⟨w.heap.size,0,none⟩=false∧w'.frozen? ⟨w.heap.size,1,none⟩=false∧w'.frozen? ⟨w.heap.size,2,none⟩=false ∧
          w'.cell? ⟨w2.heap.size,0,none⟩=some (.int .i64 vd)∧w'.cell? ⟨w2.heap.size,1,none⟩=some (.int .i64 nx)∧w'.cell? ⟨w2.heap.size,2,none⟩=some (.slice av j cv) ∧
          (∀ x,(w'.setCell ⟨w.heap.size,0,none⟩ x).cell? ⟨w.heap.size,0,none⟩=some x)∧(∀ x y,((w'.setCell ⟨w.heap.size,0,none⟩ x).setCell ⟨w.heap.size,1,none⟩ y).cell? ⟨w.heap.size,1,none⟩=some y)∧(∀ x y z,(((w'.setCell ⟨w.heap.size,0,none⟩ x).setCell ⟨w.heap.size,1,none⟩ y).setCell ⟨w.heap.size,2,none⟩ z).cell? ⟨w.heap.size,2,none⟩=some z) ∧
          (manDec b=(zeroMan,3)→DecPost b F0 w0 R (.returned (.tuple #[.agg #[.int .i64 0,.int .i64 0,.slice none 0 0],.int .i64 3])) (((w'.setCell ⟨w.heap.size,0,none⟩ (.int .i64 0)).setCell ⟨w.heap.size,1,none⟩ (.int .i64 0)).setCell ⟨w.heap.size,2,none⟩ (.slice none 0 0))) ∧
          (manDec b=(⟨vd,nx,sg⟩,0)→DecPost b F0 w0 R (.returned (.tuple #[.agg #[.int .i64 vd,.int .i64 nx,.slice av j cv],.int .i64 0])) (((w'.setCell ⟨w.heap.size,0,none⟩ (.int .i64 vd)).setCell ⟨w.heap.size,1,none⟩ (.int .i64 nx)).setCell ⟨w.heap.size,2,none⟩ (.slice av j cv)))):=Lib.hid fun w' h'=>by
         have bk:=h'.block 5 rfl
         have mk:=h'.block 1 rfl
         refine⟨cell_of bk rfl,cell_of bk rfl,cell_of bk rfl,free_of bk,free_of bk,free_of bk,cell_of mk rfl,cell_of mk rfl,cell_of mk rfl,fun x=>set_cell_same bk (by simp) x,fun x y=>set_cell_same (hp_setCell_same bk) (by simp) y,fun x y z=>set_cell_same (hp_setCell_same (hp_setCell_same bk)) (by simp) z,fun he=>?_,fun he=>?_⟩
         ·refine⟨_,by rw [he];rfl,?_⟩
          rw [he]
          have h9:=((h'.put 5 rfl 0 (.int .i64 0)).put 5 rfl 1 (.int .i64 0)).put 5 rfl 2 (.slice none 0 0)
          exact (In.right (R1:=[_,_,_,_,_,_]) h9).rownil _ _
         ·refine⟨.slice av j cv,by rw [he],?_⟩
          rw [he]
          have h9:=((h'.put 5 rfl 0 (.int .i64 vd)).put 5 rfl 1 (.int .i64 nx)).put 5 rfl 2 (.slice av j cv)
          simp only
          rw [HLN.out]
          exact h9.sel2 (R1:=[_,_,_,_,_,_]) [2] (by decide) rfl
        have K8:=o_may HOJ.out ⟨vd,nx,sg⟩ (A:=av) (c:=cv) (fun w' h'=>by
         obtain⟨F',r'⟩:=h'.get 2 rfl
         show Src w' av sg.length 1 (segV sg)
         rw [HLN.out]
         exact r'.all) (by show sg.length≤_;rw [HLN.out];omega)
        unfold manAgg at K8
        simp only [HLN.out] at K8
        have K8h:=Lib.hid K8
        obtain⟨-,-,-,-,-,-,a0,a1,a2,-⟩:=HFIN.out wr HOJ.out
        clear K8
        by_cases hend:endE lN eN=0
        ·rw [hend] at K7
         cases hmy:mayM ⟨vd,nx,sg⟩ with
         | true=>
          have HE:=Lib.hid (And.intro hend hmy)
          rw [hmy] at K8h
          clear hend hmy
          go_wp2_with fail
          refine K7.out.mono ?_
          rintro e w9 ⟨rfl,rfl⟩
          clear K7
          go_wp2_with fail
          refine K8h.out.mono ?_
          rintro e w10 ⟨rfl,g10⟩
          obtain⟨d0,d1,d2,f0,f1,f2,b0,b1,b2,y0,y1,y2,herr,hok⟩:=HFIN.out w10 g10
          have HR:=Lib.hid (hok (by rw [HM3.out,if_pos HE.out]))
          have Y:=Lib.hid (And.intro y0 (And.intro y1 y2))
          clear g10 K8h HFIN HM3 HE y0 y1 y2 herr hok HOJ a0 a1 a2
          go_wp2_with fail
          exact bodyPost_ret (v:=.tuple #[.agg #[.int .i64 vd,.int .i64 nx,.slice av j cv],.int .i64 0]) (by simp [results,Tryz.results82,go_sem,Y.out.1,Y.out.2.1,Y.out.2.2]) rfl HR.out
         | false=>
          have HE:Hid (manDec b=(zeroMan,3)):=Lib.hid (by rw [HM3.out,if_neg (by rw [hmy];simp)])
          rw [hmy] at K8h
          clear hend hmy
          go_wp2_with fail
          refine K7.out.mono ?_
          rintro e w9 ⟨rfl,rfl⟩
          clear K7
          go_wp2_with fail
          refine K8h.out.mono ?_
          rintro e w10 ⟨rfl,g10⟩
          obtain⟨d0,d1,d2,f0,f1,f2,b0,b1,b2,y0,y1,y2,herr,hok⟩:=HFIN.out w10 g10
          have HR:=Lib.hid (herr HE.out)
          have Y:=Lib.hid (And.intro y0 (And.intro y1 y2))
          clear g10 K8h HFIN HM3 HE y0 y1 y2 herr hok HOJ a0 a1 a2
          go_wp2_with fail
          exact bodyPost_ret (v:=.tuple #[.agg #[.int .i64 0,.int .i64 0,.slice none 0 0],.int .i64 3]) (by simp [results,Tryz.results82,go_sem,Y.out.1,Y.out.2.1,Y.out.2.2]) rfl HR.out
        ·have HE:Hid (manDec b=(zeroMan,3)):=Lib.hid (by rw [HM3.out,if_neg (fun h=>hend h.1)])
         have q9:(endE lN eN != 0)=true:=by rw [bne_iff_ne];exact hend
         obtain⟨d0,d1,d2,f0,f1,f2,b0,b1,b2,y0,y1,y2,herr,hok⟩:=HFIN.out wr HOJ.out
         have HR:=Lib.hid (herr HE.out)
         have Y:=Lib.hid (And.intro y0 (And.intro y1 y2))
         clear K8h HFIN HM3 HE y0 y1 y2 herr hok HOJ a0 a1 a2 hend
         generalize endE lN eN=ee at *
         go_wp2_with fail
         refine K7.out.mono ?_
         rintro e w9 ⟨rfl,rfl⟩
         clear K7
         go_wp2_with fail
         exact bodyPost_ret (v:=.tuple #[.agg #[.int .i64 0,.int .i64 0,.slice none 0 0],.int .i64 3]) (by simp [results,Tryz.results82,go_sem,Y.out.1,Y.out.2.1,Y.out.2.2]) rfl HR.out
     ·have hkN:N=65:=by rw [← HN.out];omega
      subst hkN
      have q5:(65:Int) < ((num t1.1:Nat):Int):=by omega
      clear hk65 G5
      generalize num t1.1=kk at *
      go_wp2_with fail
      go_loopw [53] (DecRel br w2.heap.size vd nx t1.2.1 t1.2.2 65 F0 w0 (Cells w1.heap.size #[.int .i64 kd,.int .i64 vd,.slice ab body.length cb] 74::RowA 5 1 (.slice ab body.length cb) body.length (u8s body)::Cells w.heap.size #[.int .i64 0,.int .i64 0,.slice none 0 0] 104::R)) (fun k _=>65 - (intOf k).toNat)
      case atStart=>exact HS0.out
      case round=>
       obtain⟨j,vv,rfl,hj,ho⟩:=hrel
       clear HS0
       obtain⟨Fr,hr⟩:=ho.get 2 rfl
       obtain⟨av,cv,rfl,-,-,-⟩:=hr.shape
       have hln:(rdAt j t1.2.1 t1.2.2).1.length=j:=rdAt_length _ _ _
       rw [hln] at ho
       clear hr
       have mk:=ho.block 1 rfl
       by_cases hlt:j < 65
       ·have hlt':(j:Int) < (65:Int):=by omega
        have hst:rdAt (j+1) t1.2.1 t1.2.2=((rdAt j t1.2.1 t1.2.2).1++[num (rdTake (rdAt j t1.2.1 t1.2.2).2.1 (rdAt j t1.2.1 t1.2.2).2.2 4).1],(rdTake (rdAt j t1.2.1 t1.2.2).2.1 (rdAt j t1.2.1 t1.2.2).2.2 4).2):=rfl
        have HST:=Lib.hid hst
        have HLN:=Lib.hid hln
        have hn4':num (rdTake (rdAt j t1.2.1 t1.2.2).2.1 (rdAt j t1.2.1 t1.2.2).2.2 4).1 < 4294967296:=by
         have:=num_lt_of (rdTake_len (rdAt j t1.2.1 t1.2.2).2.1 (rdAt j t1.2.1 t1.2.2).2.2 4)
         simpa using this
        have c2:wr.cell? ⟨w2.heap.size,2,none⟩=some (.slice av j cv):=cell_of mk rfl
        have K6:=Lib.hid (o_ru32 (ho.drewN 1) 0 rfl)
        clear ho mk hst hln hlt
        generalize rdAt j t1.2.1 t1.2.2=st at *
        obtain⟨sg,lj,ej⟩:=st
        simp only at hn4' K6 HLN HST
        obtain⟨xn,hxn⟩:∃ xn,num (rdTake lj ej 4).1=xn:=⟨_,rfl⟩
        rw [hxn] at hn4' K6 HST
        have hw:IntKind.i64.wrap (xn:Int)=xn:=by rw [IntKind.wrap_i64];omega
        clear hxn
        go_wp2_with fail
        go_region_law
         (first
          | (try go_simp
             go_at_call 138
             refine K6.out.mono ?_
             rintro e w6 ⟨rfl,g6⟩
             have mk6:=g6.block 1 rfl
             have e2:w6.cell? ⟨w2.heap.size,2,none⟩=some (.slice av j cv):=cell_of mk6 rfl
             have e2':∀ C T,(w6.alloc (.cells C T)).cell? ⟨w2.heap.size,2,none⟩=some (.slice av j cv):=fun C T=>cell_of ((hp_alloc_old (hp_lt mk6)).trans mk6) rfl
             have HG6:=Lib.hid g6
             clear g6 mk6)
          | (refine app_step rfl (R:=Cells _ _ 3::RdA br _ _::Cells w2.heap.size _ 104::RowA 3 1 (.slice av j cv) j (segV sg)::(Cells w1.heap.size #[.int .i64 kd,.int .i64 vd,.slice ab body.length cb] 74::RowA 5 1 (.slice ab body.length cb) body.length (u8s body)::Cells w.heap.size #[.int .i64 0,.int .i64 0,.slice none 0 0] 104::R)) (by exact HG6.out.cells _ _) 3 rfl (.tmp 56) (.tmp 60) 102 (by rfl) Tryz.underlying102 infoInt (by decide) (by decide) (by rfl) (by rfl) (by exact Src.of_block ((HG6.out.cells _ _).block 0 rfl) rfl) (fun u hu=>by simp at hu;subst hu;rfl) (by omega) ?_
             intro v1 w7 ho1 hg1
             have mk7:=ho1.block 2 rfl
             have e3:w7.cell? ⟨w2.heap.size,2,none⟩=some (.slice av j cv):=cell_of mk7 rfl
             have f3:w7.frozen? ⟨w2.heap.size,2,none⟩=false:=free_of mk7
             obtain⟨F7,hr7⟩:=ho1.get 3 rfl
             obtain⟨a7,c7,rfl,-,-,-⟩:=hr7.shape
             have HO1:=Lib.hid ho1
             clear ho1 hg1 mk7 hr7))
        all_goals
         have h8:=(HO1.out.put 2 rfl 2 (.slice a7 (j+1) c7)).drop
         have HR:Hid (DecRel br w2.heap.size vd nx t1.2.1 t1.2.2 65 F0 w0 (Cells w1.heap.size #[.int .i64 kd,.int .i64 vd,.slice ab body.length cb] 74::RowA 5 1 (.slice ab body.length cb) body.length (u8s body)::Cells w.heap.size #[.int .i64 0,.int .i64 0,.slice none 0 0] 104::R) (.int .i64 (j+1)) (w7.setCell ⟨w2.heap.size,2,none⟩ (.slice a7 (j+1) c7))):=Lib.hid ⟨j+1,_,by go_num,by omega,by
          rw [HST.out]
          simp only [List.length_append,HLN.out,List.length_cons,List.length_nil]
          have e:segV (sg++[xn])=segV sg++[.int .i64 xn]:=by simp [segV]
          rw [e]
          exact h8⟩
         clear h8 HO1
         go_wp2_with fail
         go_roundw
         case rel=>exact HR.out
         case measure=>simp [intOf];omega
       ·have hjN:j=65:=by omega
        have hge:(65:Int)≤(j:Int):=by omega
        have hle:(rdAt j t1.2.1 t1.2.2).2.1.length≤100000000:=by
         have h1:=rdAt_le t1.2.1 t1.2.2 j
         have h2:t1.2.1.length≤body.length:=by
          rw [← T1.out]
          exact Nat.le_trans (rdTake_le _ _ _) (rdTake_le _ _ _)
         omega
        have K7:=Lib.hid (o_rend ho 0 rfl hle)
        have hdr:=HDR.out
        rw [← hjN] at hdr
        have HM3:Hid (manDec b=if endE (rdAt j t1.2.1 t1.2.2).2.1 (rdAt j t1.2.1 t1.2.2).2.2=0∧mayM ⟨vd,nx,(rdAt j t1.2.1 t1.2.2).1⟩ then (⟨vd,nx,(rdAt j t1.2.1 t1.2.2).1⟩,0) else (zeroMan,3)):=Lib.hid (by rw [HM2.out,hdr])
        have HOJ:Hid (In F0 w0 wr (RdA br (rdAt j t1.2.1 t1.2.2).2.1 (rdAt j t1.2.1 t1.2.2).2.2::Cells w2.heap.size #[.int .i64 vd,.int .i64 nx,.slice av j cv] 104::RowA 3 1 (.slice av j cv) j (segV (rdAt j t1.2.1 t1.2.2).1)::(Cells w1.heap.size #[.int .i64 kd,.int .i64 vd,.slice ab body.length cb] 74::RowA 5 1 (.slice ab body.length cb) body.length (u8s body)::Cells w.heap.size #[.int .i64 0,.int .i64 0,.slice none 0 0] 104::R))):=Lib.hid ho
        have HLN:=Lib.hid hln
        clear ho mk hdr hln HM2 HDR hlt hle hjN
        generalize rdAt j t1.2.1 t1.2.2=st at *
        obtain⟨sg,lN,eN⟩:=st
        simp only at K7 HM3 HLN HOJ
        have HFIN:Hid (∀ w',In F0 w0 w' (RdA br lN eN::Cells w2.heap.size #[.int .i64 vd,.int .i64 nx,.slice av j cv] 104::RowA 3 1 (.slice av j cv) j (segV sg)::(Cells w1.heap.size #[.int .i64 kd,.int .i64 vd,.slice ab body.length cb] 74::RowA 5 1 (.slice ab body.length cb) body.length (u8s body)::Cells w.heap.size #[.int .i64 0,.int .i64 0,.slice none 0 0] 104::R)) →
          w'.cell? ⟨w.heap.size,0,none⟩=some (.int .i64 0)∧w'.cell? ⟨w.heap.size,1,none⟩=some (.int .i64 0)∧w'.cell? ⟨w.heap.size,2,none⟩=some (.slice none 0 0) ∧
          w'.frozen? ⟨w.heap.size,0,none⟩=false∧w'.frozen? ⟨w.heap.size,1,none⟩=false∧w'.frozen? ⟨w.heap.size,2,none⟩=false ∧
          w'.cell? ⟨w2.heap.size,0,none⟩=some (.int .i64 vd)∧w'.cell? ⟨w2.heap.size,1,none⟩=some (.int .i64 nx)∧w'.cell? ⟨w2.heap.size,2,none⟩=some (.slice av j cv) ∧
          (∀ x,(w'.setCell ⟨w.heap.size,0,none⟩ x).cell? ⟨w.heap.size,0,none⟩=some x)∧(∀ x y,((w'.setCell ⟨w.heap.size,0,none⟩ x).setCell ⟨w.heap.size,1,none⟩ y).cell? ⟨w.heap.size,1,none⟩=some y)∧(∀ x y z,(((w'.setCell ⟨w.heap.size,0,none⟩ x).setCell ⟨w.heap.size,1,none⟩ y).setCell ⟨w.heap.size,2,none⟩ z).cell? ⟨w.heap.size,2,none⟩=some z) ∧
          (manDec b=(zeroMan,3)→DecPost b F0 w0 R (.returned (.tuple #[.agg #[.int .i64 0,.int .i64 0,.slice none 0 0],.int .i64 3])) (((w'.setCell ⟨w.heap.size,0,none⟩ (.int .i64 0)).setCell ⟨w.heap.size,1,none⟩ (.int .i64 0)).setCell ⟨w.heap.size,2,none⟩ (.slice none 0 0))) ∧
          (manDec b=(⟨vd,nx,sg⟩,0)→DecPost b F0 w0 R (.returned (.tuple #[.agg #[.int .i64 vd,.int .i64 nx,.slice av j cv],.int .i64 0])) (((w'.setCell ⟨w.heap.size,0,none⟩ (.int .i64 vd)).setCell ⟨w.heap.size,1,none⟩ (.int .i64 nx)).setCell ⟨w.heap.size,2,none⟩ (.slice av j cv)))):=Lib.hid fun w' h'=>by
         have bk:=h'.block 5 rfl
         have mk:=h'.block 1 rfl
         refine⟨cell_of bk rfl,cell_of bk rfl,cell_of bk rfl,free_of bk,free_of bk,free_of bk,cell_of mk rfl,cell_of mk rfl,cell_of mk rfl,fun x=>set_cell_same bk (by simp) x,fun x y=>set_cell_same (hp_setCell_same bk) (by simp) y,fun x y z=>set_cell_same (hp_setCell_same (hp_setCell_same bk)) (by simp) z,fun he=>?_,fun he=>?_⟩
         ·refine⟨_,by rw [he];rfl,?_⟩
          rw [he]
          have h9:=((h'.put 5 rfl 0 (.int .i64 0)).put 5 rfl 1 (.int .i64 0)).put 5 rfl 2 (.slice none 0 0)
          exact (In.right (R1:=[_,_,_,_,_,_]) h9).rownil _ _
         ·refine⟨.slice av j cv,by rw [he],?_⟩
          rw [he]
          have h9:=((h'.put 5 rfl 0 (.int .i64 vd)).put 5 rfl 1 (.int .i64 nx)).put 5 rfl 2 (.slice av j cv)
          simp only
          rw [HLN.out]
          exact h9.sel2 (R1:=[_,_,_,_,_,_]) [2] (by decide) rfl
        have K8:=o_may HOJ.out ⟨vd,nx,sg⟩ (A:=av) (c:=cv) (fun w' h'=>by
         obtain⟨F',r'⟩:=h'.get 2 rfl
         show Src w' av sg.length 1 (segV sg)
         rw [HLN.out]
         exact r'.all) (by show sg.length≤_;rw [HLN.out];omega)
        unfold manAgg at K8
        simp only [HLN.out] at K8
        have K8h:=Lib.hid K8
        obtain⟨-,-,-,-,-,-,a0,a1,a2,-⟩:=HFIN.out wr HOJ.out
        clear K8
        by_cases hend:endE lN eN=0
        ·rw [hend] at K7
         cases hmy:mayM ⟨vd,nx,sg⟩ with
         | true=>
          have HE:=Lib.hid (And.intro hend hmy)
          rw [hmy] at K8h
          clear hend hmy
          go_wp2_with fail
          refine K7.out.mono ?_
          rintro e w9 ⟨rfl,rfl⟩
          clear K7
          go_wp2_with fail
          refine K8h.out.mono ?_
          rintro e w10 ⟨rfl,g10⟩
          obtain⟨d0,d1,d2,f0,f1,f2,b0,b1,b2,y0,y1,y2,herr,hok⟩:=HFIN.out w10 g10
          have HR:=Lib.hid (hok (by rw [HM3.out,if_pos HE.out]))
          have Y:=Lib.hid (And.intro y0 (And.intro y1 y2))
          clear g10 K8h HFIN HM3 HE y0 y1 y2 herr hok HOJ a0 a1 a2
          go_wp2_with fail
          exact bodyPost_ret (v:=.tuple #[.agg #[.int .i64 vd,.int .i64 nx,.slice av j cv],.int .i64 0]) (by simp [results,Tryz.results82,go_sem,Y.out.1,Y.out.2.1,Y.out.2.2]) rfl HR.out
         | false=>
          have HE:Hid (manDec b=(zeroMan,3)):=Lib.hid (by rw [HM3.out,if_neg (by rw [hmy];simp)])
          rw [hmy] at K8h
          clear hend hmy
          go_wp2_with fail
          refine K7.out.mono ?_
          rintro e w9 ⟨rfl,rfl⟩
          clear K7
          go_wp2_with fail
          refine K8h.out.mono ?_
          rintro e w10 ⟨rfl,g10⟩
          obtain⟨d0,d1,d2,f0,f1,f2,b0,b1,b2,y0,y1,y2,herr,hok⟩:=HFIN.out w10 g10
          have HR:=Lib.hid (herr HE.out)
          have Y:=Lib.hid (And.intro y0 (And.intro y1 y2))
          clear g10 K8h HFIN HM3 HE y0 y1 y2 herr hok HOJ a0 a1 a2
          go_wp2_with fail
          exact bodyPost_ret (v:=.tuple #[.agg #[.int .i64 0,.int .i64 0,.slice none 0 0],.int .i64 3]) (by simp [results,Tryz.results82,go_sem,Y.out.1,Y.out.2.1,Y.out.2.2]) rfl HR.out
        ·have HE:Hid (manDec b=(zeroMan,3)):=Lib.hid (by rw [HM3.out,if_neg (fun h=>hend h.1)])
         have q9:(endE lN eN != 0)=true:=by rw [bne_iff_ne];exact hend
         obtain⟨d0,d1,d2,f0,f1,f2,b0,b1,b2,y0,y1,y2,herr,hok⟩:=HFIN.out wr HOJ.out
         have HR:=Lib.hid (herr HE.out)
         have Y:=Lib.hid (And.intro y0 (And.intro y1 y2))
         clear K8h HFIN HM3 HE y0 y1 y2 herr hok HOJ a0 a1 a2 hend
         generalize endE lN eN=ee at *
         go_wp2_with fail
         refine K7.out.mono ?_
         rintro e w9 ⟨rfl,rfl⟩
         clear K7
         go_wp2_with fail
         exact bodyPost_ret (v:=.tuple #[.agg #[.int .i64 0,.int .i64 0,.slice none 0 0],.int .i64 3]) (by simp [results,Tryz.results82,go_sem,Y.out.1,Y.out.2.1,Y.out.2.2]) rfl HR.out
 ·have HE:=Lib.hid (fun o=>HERR.out er o (by rw [HM.out,if_pos h0]))
  have q:(er != 0)=true:=by rw [bne_iff_ne];exact h0
  clear HERR HM htk h0
  go_wp2_with fail
  exact bodyPost_ret (v:=.tuple #[.agg #[.int .i64 0,.int .i64 0,.slice none 0 0],.int .i64 er]) (by simp [results,Tryz.results82,go_sem,Y.out.1,Y.out.2.1,Y.out.2.2]) rfl (HE.out _)
end
end Go.Proofs.YtpmmiljakbojaaaGreat
