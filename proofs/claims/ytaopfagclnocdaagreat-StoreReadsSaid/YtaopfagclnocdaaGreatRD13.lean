/- Rows.StoreReadsSaid -/
import Derived.Test.YtaopfagclnocdaaGreatRD12
import Derived.Test.YtaopfagclnocdaaGreatRD2
import Derived.Deep.MidRow
import Derived.Lib.SliceRun
import Derived.Test.YtaopfagclnocdaaGreatRD3
namespace Go.Proofs.YtaopfagclnocdaaGreat
open Go.RowKit
set_option linter.unusedVariables false
set_option maxHeartbeats 64000000
set_option maxRecDepth 100000
section
variable {F0:List Nat} {w0 w:World} {R:List Asrt}
theorem o_rcplain {r:Rec} {A:Option Addr} {c:Nat} (hs:BksAt F0 w0 R A r.bks) (hn:A=none→c=0) (hl:r.bks.length≤1000000) (h:In F0 w0 w R):Calls Tryz.prog 115 #[agR r A c] w (RecPost (plainRec r) F0 w0 R):=by
 have H:Hid (∀ w' ,In F0 w0 w' R→In F0 w0 w' (BkR (.slice none 0 0) []::R)):=Lib.hid fun w' h'=>h'.rownil _ _
 have HH:=Lib.hid h
 obtain⟨kind,fl,gen,bks,bk,till,count⟩:=r
 by_cases k1:kind=1
 ·subst k1
  have e:plainRec ⟨1,fl,gen,bks,bk,till,count⟩=⟨1,fl,0,[],0,0,0⟩:=rfl
  rw [e];clear e h hs hn hl
  obtain⟨⟨src,dst,proto,sport,dport⟩,fbk,fgen,fseen⟩:=fl
  go_enter Tryz.func115,Tryz.ntmps115
  go_wp2_with fail
  exact bodyPost_ret (results_cell_row Tryz.results115 _ _ (w.heap.size+1) 45 _ (0,0) _ rfl (heap3_mid w _ _ _) Tryz.underlying45 rfl (by kernel_rfl)) rfl ⟨.slice none 0 0,rfl,H.out _ (((HH.out.alloc _).alloc _).alloc _)⟩
 by_cases k2:kind=2
 ·subst k2
  have e:plainRec ⟨2,fl,gen,bks,bk,till,count⟩=⟨2,⟨fl.t,0,0,0⟩,0,[],0,0,0⟩:=rfl
  rw [e];clear e h hs hn hl k1
  obtain⟨⟨src,dst,proto,sport,dport⟩,fbk,fgen,fseen⟩:=fl
  go_enter Tryz.func115,Tryz.ntmps115
  go_wp2_with fail
  exact bodyPost_ret (results_cell_row Tryz.results115 _ _ (w.heap.size+1) 45 _ (0,0) _ rfl (heap3_mid w _ _ _) Tryz.underlying45 rfl (by kernel_rfl)) rfl ⟨.slice none 0 0,rfl,H.out _ (((HH.out.alloc _).alloc _).alloc _)⟩
 by_cases k3:kind=3
 ·subst k3
  have e:plainRec ⟨3,fl,gen,bks,bk,till,count⟩=⟨3,zeroF,gen,bks,0,0,0⟩:=rfl
  rw [e];clear e k1 k2
  obtain⟨⟨src,dst,proto,sport,dport⟩,fbk,fgen,fseen⟩:=fl
  exact o_rcplain3 hs hn hl h
 by_cases k4:kind=4
 ·subst k4
  have e:plainRec ⟨4,fl,gen,bks,bk,till,count⟩=⟨4,zeroF,0,[],bk,till,0⟩:=rfl
  rw [e];clear e h hs hn hl k1 k2 k3
  go_enter Tryz.func115,Tryz.ntmps115
  go_wp2_with fail
  have hne1:¬ w.heap.size+1+1=w.heap.size:=by omega
  have hne2:¬ w.heap.size=w.heap.size+1+1:=by omega
  go_region_held3 (fun w'=>w'.cell? ⟨w.heap.size,11,none⟩=some (.int .i64 bk)∧w'.cell? ⟨w.heap.size,12,none⟩=some (.int .i64 till)) (first | exact⟨rfl,rfl⟩ | (refine⟨?_,?_⟩ <;> go_simp;done) | go_keep) (fail)
  go_wp2_with fail
  exact bodyPost_ret (results_cell_row Tryz.results115 _ _ (w.heap.size+1) 45 _ (0,0) _ rfl (heap3_mid w _ _ _) Tryz.underlying45 rfl (by kernel_rfl)) rfl ⟨.slice none 0 0,rfl,H.out _ ((((HH.out.alloc _).alloc _).alloc _).drewN 1)⟩
 by_cases k5:kind=5
 ·subst k5
  have e:plainRec ⟨5,fl,gen,bks,bk,till,count⟩=⟨5,zeroF,0,[],bk,0,0⟩:=rfl
  rw [e];clear e h hs hn hl k1 k2 k3 k4
  go_enter Tryz.func115,Tryz.ntmps115
  go_wp2_with fail
  exact bodyPost_ret (results_cell_row Tryz.results115 _ _ (w.heap.size+1) 45 _ (0,0) _ rfl (heap3_mid w _ _ _) Tryz.underlying45 rfl (by kernel_rfl)) rfl ⟨.slice none 0 0,rfl,H.out _ (((HH.out.alloc _).alloc _).alloc _)⟩
 by_cases k6:kind=6
 ·subst k6
  have e:plainRec ⟨6,fl,gen,bks,bk,till,count⟩=⟨6,zeroF,0,[],0,0,count⟩:=rfl
  rw [e];clear e h hs hn hl k1 k2 k3 k4 k5
  go_enter Tryz.func115,Tryz.ntmps115
  go_wp2_with fail
  exact bodyPost_ret (results_cell_row Tryz.results115 _ _ (w.heap.size+1) 45 _ (0,0) _ rfl (heap3_mid w _ _ _) Tryz.underlying45 rfl (by kernel_rfl)) rfl ⟨.slice none 0 0,rfl,H.out _ (((HH.out.alloc _).alloc _).alloc _)⟩
 ·have e:plainRec ⟨kind,fl,gen,bks,bk,till,count⟩=⟨kind,zeroF,0,[],0,0,0⟩:=by unfold plainRec;simp only;rw [if_neg k1,if_neg k2,if_neg k3,if_neg k4,if_neg k5,if_neg k6]
  have q1:(kind == 1)=false:=beq_eq_false_iff_ne.2 k1
  have q2:(kind == 2)=false:=beq_eq_false_iff_ne.2 k2
  have q3:(kind == 3)=false:=beq_eq_false_iff_ne.2 k3
  have q4:(kind == 4)=false:=beq_eq_false_iff_ne.2 k4
  have q5:(kind == 5)=false:=beq_eq_false_iff_ne.2 k5
  have q6:(kind == 6)=false:=beq_eq_false_iff_ne.2 k6
  rw [e];clear e h hs hn hl k1 k2 k3 k4 k5 k6
  go_enter Tryz.func115,Tryz.ntmps115
  go_wp2_with fail
  exact bodyPost_ret (results_cell_row Tryz.results115 _ _ (w.heap.size+1) 45 _ (0,0) _ rfl (heap3_mid w _ _ _) Tryz.underlying45 rfl (by kernel_rfl)) rfl ⟨.slice none 0 0,rfl,H.out _ (((HH.out.alloc _).alloc _).alloc _)⟩
end
theorem setCells_heap:∀ (us:List Value) (w:World) (g o:Nat) (C:Array Value) (T:TypeId) (fz:Nat×Nat),w.heap[g]?=some (.cells C T fz)→o+us.length≤C.size →
  ∃ C',(w.setCells g o us).heap[g]?=some (.cells C' T fz)∧C'.toList=C.toList.take o++us++C.toList.drop (o+us.length)∧Mod [g] w (w.setCells g o us)
 | [],w,g,o,C,T,fz,h,_=>⟨C,h,by simp,Mod.refl _ _⟩
 | v::r,w,g,o,C,T,fz,h,hl=>by
  have hl':o+1+r.length≤C.size:=by simp at hl;omega
  have h1:=hp_setCell_same (o:=o) (v:=v) h
  obtain⟨C',e1,e2,e3⟩:=setCells_heap r (w.setCell ⟨g,o,none⟩ v) g (o+1) _ T fz h1 (by simpa using hl')
  refine⟨C',e1,?_,((Mod.refl [g] w).setCell (p:=⟨g,o,none⟩) (Or.inl (by simp)) v).trans' e3⟩
  rw [e2]
  have ho:o < C.toList.length:=by rw [Array.length_toList];omega
  rw [Array.toList_setIfInBounds,List.take_set,List.drop_set,if_pos (by omega),List.take_add_one]
  rw [show (C.toList[o]?).toList=[C.toList[o]] by rw [List.getElem?_eq_getElem ho];rfl]
  rw [List.set_append_right _ _ (by simp;omega)]
  rw [show o - (C.toList.take o).length=0 by simp;omega]
  simp only [List.set_cons_zero,List.append_assoc,List.cons_append,List.nil_append,List.length_cons]
  rw [show o+1+r.length=o+(r.length+1) by omega]
def putAt (xs:List Value) (o:Nat) (us:List Value):List Value:=xs.take o++us++xs.drop (o+us.length)
theorem putAt_length {xs us:List Value} {o:Nat} (h:o+us.length≤xs.length):(putAt xs o us).length=xs.length:=by unfold putAt;simp;omega
theorem RowA.put {T:TypeId} {k:Nat} {g n' n cap:Nat} {xs:List Value} {w:World} {F:List Nat} (h:RowA T k (.slice (some ⟨g,0,none⟩) n' cap) n xs w F) {o:Nat} {us:List Value} (ho:o+us.length≤xs.length) :
  RowA T k (.slice (some ⟨g,0,none⟩) n' cap) n (putAt xs o us) (w.setCells g o us) F∧Mod F w (w.setCells g o us):=by
 obtain⟨h0,h1,h2⟩:=h
 rcases h2 with ⟨e,h3⟩|⟨g',cap',cur,e,h3,h4,h5,h6,h7,h8⟩
 ·cases e
 ·cases e
  have hlen:xs.length≤cur.size:=by
   have:=congrArg List.length h8
   simp at this;omega
  obtain⟨C',e1,e2,e3⟩:=setCells_heap us w g o cur T (0,0) h4 (by omega)
  refine⟨⟨h0,by rw [putAt_length ho,h1],Or.inr ⟨g,cap,C',rfl,h3,e1,h5,h6,?_,?_⟩⟩,e3.mono (fun b hb=>by rw [h0];simpa [Value.ownBlock] using hb)⟩
  ·rw [← Array.length_toList,e2];simp;omega
  ·rw [e2]
   obtain⟨D,e4⟩:∃ D,cur.toList=xs++D:=⟨cur.toList.drop (n' * k),by rw [← h8,List.take_append_drop]⟩
   have hx:xs.length=n' * k:=h1
   rw [e4]
   unfold putAt
   have a1:(xs++D).take o=xs.take o:=List.take_append_of_le_length (by omega)
   have a2:(xs++D).drop (o+us.length)=xs.drop (o+us.length)++D:=List.drop_append_of_le_length (by omega)
   rw [a1,a2,← List.append_assoc,List.take_append_of_le_length (by simp;omega),List.take_of_length_le (by simp;omega)]
theorem RowA.there {T:TypeId} {k:Nat} {g n' n cap:Nat} {xs:List Value} {w:World} {F:List Nat} (h:RowA T k (.slice (some ⟨g,0,none⟩) n' cap) n xs w F) {o m:Nat} (ho:o+m≤xs.length):w.there g o m:=by
 obtain⟨h0,h1,h2⟩:=h
 rcases h2 with ⟨e,h3⟩|⟨g',cap',cur,e,h3,h4,h5,h6,h7,h8⟩
 ·cases e
 ·cases e
  have hlen:xs.length≤cur.size:=by
   have:=congrArg List.length h8
   simp at this;omega
  intro j hj
  refine⟨?_,free_of h4⟩
  rw [cell_of h4 (v:=cur[o+j]'(by omega)) (Array.getElem?_eq_getElem _)];rfl
theorem row_put {F0:List Nat} {w0 w:World} {R:List Asrt} {T:TypeId} {k g n' n cap:Nat} {xs:List Value} (h:In F0 w0 w R) (i:Nat) (hA:R[i]?=some (RowA T k (.slice (some ⟨g,0,none⟩) n' cap) n xs)) {o:Nat} {us:List Value} (ho:o+us.length≤xs.length) :
  In F0 w0 (w.setCells g o us) (R.set i (RowA T k (.slice (some ⟨g,0,none⟩) n' cap) n (putAt xs o us))):=
 h.step i hA (RowA.framed _ _ _ _ _) fun F hF=>⟨F,(hF.put ho).1,Grew.refl _ _,(hF.put ho).2⟩
theorem bkV_append (a b:List Bk):bkV (a++b)=bkV a++bkV b:=by simp [bkV]
theorem bkV_cons (b:Bk) (l:List Bk):bkV (b::l)=encB b++bkV l:=by simp [bkV]
def mixL (v:Int) (l:List Bk) (k:Nat):List Bk:=(l.take k).map (inBk v)++l.drop k
theorem mixL_zero (v:Int) (l:List Bk):mixL v l 0=l:=rfl
theorem mixL_all (v:Int) (l:List Bk):mixL v l l.length=l.map (inBk v):=by unfold mixL;simp
theorem mixL_length (v:Int) (l:List Bk) (k:Nat):(mixL v l k).length=l.length:=by unfold mixL;simp;omega
theorem mixL_at {v:Int} {l:List Bk} {k:Nat} {b:Bk} (h:l[k]?=some b):mixL v l k=(l.take k).map (inBk v)++b::l.drop (k+1)∧mixL v l (k+1)=(l.take k).map (inBk v)++inBk v b::l.drop (k+1):=by
 obtain⟨hk,rfl⟩:=List.getElem?_eq_some_iff.1 h
 unfold mixL
 refine⟨by rw [List.drop_eq_getElem_cons hk],?_⟩
 rw [List.take_add_one,h,Option.toList_some,List.map_append,List.append_assoc];rfl
theorem mixL_wide {v:Int} (hv:¬ v < 2) (l:List Bk) (k:Nat):mixL v l k=l:=by
 have e:inBk v=id:=by funext b;unfold inBk;rw [if_neg hv];rfl
 unfold mixL;rw [e];simp
theorem mixL_put {v:Int} {l:List Bk} {k:Nat} {b:Bk} (hv:v < 2) (h:l[k]?=some b):putAt (bkV (mixL v l k)) (k * 3+2) [.int .i64 1]=bkV (mixL v l (k+1)):=by
 have hk:=(List.getElem?_eq_some_iff.1 h).1
 obtain⟨e1,e2⟩:=mixL_at (v:=v) h
 rw [e1,e2,bkV_append,bkV_append,bkV_cons,bkV_cons]
 have hl:(bkV ((l.take k).map (inBk v))).length=k * 3:=by rw [bkV_length];simp;omega
 generalize bkV ((l.take k).map (inBk v))=X at *
 generalize bkV (l.drop (k+1))=Y at *
 have e3:encB (inBk v b)=[.int .i64 b.id,.int .u32 b.addr,.int .i64 1]:=by unfold inBk;rw [if_pos hv]
 rw [e3]
 unfold putAt
 rw [← hl]
 have e4:(X++(encB b++Y)).take (X.length+2)=X++[.int .i64 b.id,.int .u32 b.addr]:=by
  rw [List.take_append,List.take_of_length_le (by omega)]
  simp
 have e5:(X++(encB b++Y)).drop (X.length+2+[Value.int .i64 1].length)=Y:=by
  have e6:X.length+2+[Value.int .i64 1].length - X.length=3:=by simp;omega
  rw [List.drop_append,List.drop_of_length_le (by simp;omega),e6]
  rfl
 rw [e4,e5]
 simp
theorem bkR_map {pv:Value} {l:List Bk} {f:Bk→Bk}:RowA 108 3 pv l.length (bkV (l.map f))=BkR pv (l.map f):=by unfold BkR;rw [List.length_map]
section
variable {F0:List Nat} {w0 w:World} {R:List Asrt}
def RinRel (v:Int) (y:Rec) (pv:Value) (l:List Bk) (b2 b1:Nat) (C1:Array Value) (F0:List Nat) (w0:World) (Q:List Asrt) (i:Value) (wr:World):Prop:=
 ∃ k:Nat,k≤l.length∧i=.int .i64 k∧In F0 w0 wr (RowA 108 3 pv l.length (bkV (mixL v l k))::Cells b2 (encRL y pv).toArray 45::Cells b1 C1 45::Q)
theorem rin_next {v:Int} {y:Rec} {pv:Value} {l:List Bk} {b2 b1:Nat} {C1:Array Value} {Q:List Asrt} {k:Nat} {b:Bk} (hb:l[k]?=some b) (h:In F0 w0 w (RowA 108 3 pv l.length (bkV (mixL v l (k+1)))::Cells b2 (encRL y pv).toArray 45::Cells b1 C1 45::Q)):RinRel v y pv l b2 b1 C1 F0 w0 Q (.int .i64 ((k:Int)+1)) w:=
 ⟨k+1,(List.getElem?_eq_some_iff.1 hb).1,by rw [Int.natCast_add];rfl,h⟩
theorem o_rcin {r:Rec} {A:Option Addr} {c:Nat} (v:Int) (hs:BksAt F0 w0 R A r.bks) (hn:A=none→c=0) (hl:r.bks.length≤1000000) (h:In F0 w0 w R):Calls Tryz.prog 40 #[agR r A c,.int .i64 v] w (RecPost (inRec r v) F0 w0 R):=by
 have KV:=Lib.hid (rc_version v)
 cases hv:verOk v with
 | false=>
  have e:inRec r v=zeroRec:=by unfold inRec;rw [if_pos hv]
  have HH:=Lib.hid (fun o o2=>((h.alloc o).alloc o2).rownil 108 3)
  rw [e];rw [hv] at KV
  clear e h hs hn hl hv
  obtain⟨kind,⟨⟨src,dst,proto,sport,dport⟩,fbk,fgen,fseen⟩,gen,bks,bk,till,count⟩:=r
  go_enter Tryz.func40,Tryz.ntmps40
  go_wp2_with fail
  refine (KV.out _).mono ?_
  rintro e w1 ⟨rfl,rfl⟩
  clear KV
  go_wp2_with fail
  exact bodyPost_ret (results_cell_row Tryz.results40 _ _ (w.heap.size+1) 45 _ (0,0) _ rfl (heap_alloc2_new _ _ _) Tryz.underlying45 rfl (by kernel_rfl)) rfl ⟨.slice none 0 0,rfl,HH.out _ _⟩
 | true=>
  rw [hv] at KV
  have hv13:v=1∨v=2∨v=3:=by have:1≤v∧v≤3:=of_decide_eq_true hv;omega
  have e:inRec r v=⟨(plainRec r).kind,if r.kind=1 then inFl v (plainRec r).fl else (plainRec r).fl,(plainRec r).gen,(plainRec r).bks.map (inBk v),(plainRec r).bk,(plainRec r).till,(plainRec r).count⟩:=by unfold inRec;rw [if_neg (by simp [hv])]
  have hpk:(plainRec r).kind=r.kind:=plain_kind r
  obtain⟨C0,hC0⟩:∃ C,C=(encRL r (.slice A r.bks.length c)).toArray:=⟨_,rfl⟩
  have h2:In F0 w0 ((w.alloc (.cells C0 45)).alloc (.cells (encRL zeroRec (.slice none 0 0)).toArray 45)) (Cells (w.heap.size+1) (encRL zeroRec (.slice none 0 0)).toArray 45::Cells w.heap.size C0 45::R):=by
   have h2:=(h.cells C0 45).cells (encRL zeroRec (.slice none 0 0)).toArray 45
   simp only [World.size_alloc] at h2
   exact h2
  have KP:=Lib.hid (o_rcplain (c:=c) (fun w' h'=>hs w' h'.drop.drop) hn hl h2)
  unfold RecPost at KP
  obtain⟨QQ,hQQ⟩:∃ QQ,QQ=Cells w.heap.size C0 45::R:=⟨_,rfl⟩
  rw [← hQQ] at KP
  have HD:Hid (∀ w' X,In F0 w0 w' (X::QQ)→In F0 w0 w' (X::R)):=Lib.hid fun w' X h'=>by rw [hQQ] at h';exact h'.sel2 (R1:=[_,_]) [0] (by decide) rfl
  clear hQQ
  have hkk:r.kind=1→(plainRec r).bks=[]:=fun e=>by unfold plainRec;rw [if_pos e]
  have hbl:(plainRec r).bks.length≤1000000:=by
   unfold plainRec
   repeat' split
   all_goals first | exact hl | exact Nat.zero_le _
  generalize plainRec r=q at *
  clear h h2 hs hn hl hv
  obtain⟨kind0,⟨⟨src0,dst0,proto0,sport0,dport0⟩,fbk0,fgen0,fseen0⟩,gen0,bks0,bk0,till0,count0⟩:=r
  obtain⟨kind,⟨⟨src,dst,proto,sport,dport⟩,fbk,fgen,fseen⟩,gen,ql,bk,till,count⟩:=q
  simp only at hpk hkk hbl e KP hC0
  have HBL:=Lib.hid hbl
  subst hC0
  by_cases k1:kind0=1
  ·subst hpk
   subst k1
   have hq:=hkk rfl
   have HL0:Hid (ql.length=0):=Lib.hid (by rw [hq];rfl)
   rw [if_pos rfl] at e
   clear hkk hbl hq
   rcases hv13 with rfl | rfl | rfl
   ·have e2:inFl 1 ⟨⟨src,dst,proto,sport,dport⟩,fbk,fgen,fseen⟩=⟨⟨src,dst,proto,sport,dport⟩,fbk,0,0⟩:=rfl
    rw [e,e2]
    clear e e2
    go_enter Tryz.func40,Tryz.ntmps40
    go_wp2_with fail
    refine (KV.out _).mono ?_
    rintro e w1 ⟨rfl,rfl⟩
    clear KV
    go_wp2_with fail
    refine KP.out.mono ?_
    rintro e w1 ⟨pv,rfl,g1⟩
    obtain⟨F2,r2⟩:=g1.get 0 rfl
    obtain⟨pa,pc,rfl,-,-,-⟩:=RowA.shape r2
    obtain⟨b2,hb2⟩:∃ b2,b2=w1.heap.size:=⟨_,rfl⟩
    have HR:Hid (RinRel 1 ⟨1,⟨⟨src,dst,proto,sport,dport⟩,fbk,0,0⟩,gen,ql.map (inBk 1),bk,till,count⟩ (.slice pa ql.length pc) ql b2 (w.heap.size+1) (encRL zeroRec (.slice none 0 0)).toArray F0 w0 QQ (.int .i64 0) (w1.alloc (.cells (encRL ⟨1,⟨⟨src,dst,proto,sport,dport⟩,fbk,0,0⟩,gen,ql.map (inBk 1),bk,till,count⟩ (.slice pa ql.length pc)).toArray 45))):=Lib.hid ⟨0,Nat.zero_le _,rfl,by
     rw [mixL_zero,hb2]
     exact (g1.cells (encRL ⟨1,⟨⟨src,dst,proto,sport,dport⟩,fbk,0,0⟩,gen,ql.map (inBk 1),bk,till,count⟩ (.slice pa ql.length pc)).toArray 45).sel2 (R1:=[_,_]) [1,0] (by decide) rfl⟩
    clear KP g1 r2
    go_wp2_with fail
    rw [← hb2]
    clear hb2
    go_loopw [34] (RinRel 1 ⟨1,⟨⟨src,dst,proto,sport,dport⟩,fbk,0,0⟩,gen,ql.map (inBk 1),bk,till,count⟩ (.slice pa ql.length pc) ql b2 (w.heap.size+1) (encRL zeroRec (.slice none 0 0)).toArray F0 w0 QQ) (fun k _=>ql.length - (intOf k).toNat)
    case atStart=>exact HR.out
    case round=>
     obtain⟨k,hk,rfl,hio⟩:=hrel
     clear HR
     by_cases hlt:k < ql.length
     ·exact absurd hlt (by rw [HL0.out];omega)
     ·have hge:(ql.length:Int)≤(k:Int):=Int.ofNat_le.2 (Nat.le_of_not_lt hlt)
      obtain rfl:k=ql.length:=by omega
      rw [mixL_all,bkR_map] at hio
      obtain⟨⟨q1,q2⟩,q3,q4⟩:=rec_end hio rfl
      have Q2:=Lib.hid q2
      have Q3:=Lib.hid (And.intro q3 q4)
      clear hio q2 q3 q4 hk hlt
      go_wp2_with (refine wpList_load_row rfl 45 (.tmp 5) rfl b2 rfl 45 _ (0,0) _ q1 Tryz.underlying45 rfl (by kernel_rfl) ?_;refine wpList_store_mid (op:=⟨none,Op.store 45 (.tmp 4) (.tmp 45),_,_,_,_⟩) (by rfl) 45 (.tmp 4) (.tmp 45) rfl (w.heap.size+1) 0 (encRL ⟨1,⟨⟨src,dst,proto,sport,dport⟩,fbk,0,0⟩,gen,ql.map (inBk 1),bk,till,count⟩ (.slice pa ql.length pc)).toArray (by rfl) (by rfl) Q2.out (by kernel_rfl) (encRL_all _ _ _ _) ?_)
      exact bodyPost_ret (results_cell_row Tryz.results40 _ _ (w.heap.size+1) 45 _ (0,0) _ rfl Q3.out.1 Tryz.underlying45 rfl (by kernel_rfl)) rfl ⟨_,rfl,HD.out _ _ Q3.out.2⟩
   ·have e2:inFl 2 ⟨⟨src,dst,proto,sport,dport⟩,fbk,fgen,fseen⟩=⟨⟨src,dst,proto,sport,dport⟩,fbk,fgen,0⟩:=rfl
    rw [e,e2]
    clear e e2
    go_enter Tryz.func40,Tryz.ntmps40
    go_wp2_with fail
    refine (KV.out _).mono ?_
    rintro e w1 ⟨rfl,rfl⟩
    clear KV
    go_wp2_with fail
    refine KP.out.mono ?_
    rintro e w1 ⟨pv,rfl,g1⟩
    obtain⟨F2,r2⟩:=g1.get 0 rfl
    obtain⟨pa,pc,rfl,-,-,-⟩:=RowA.shape r2
    obtain⟨b2,hb2⟩:∃ b2,b2=w1.heap.size:=⟨_,rfl⟩
    have HR:Hid (RinRel 2 ⟨1,⟨⟨src,dst,proto,sport,dport⟩,fbk,fgen,0⟩,gen,ql.map (inBk 2),bk,till,count⟩ (.slice pa ql.length pc) ql b2 (w.heap.size+1) (encRL zeroRec (.slice none 0 0)).toArray F0 w0 QQ (.int .i64 0) (w1.alloc (.cells (encRL ⟨1,⟨⟨src,dst,proto,sport,dport⟩,fbk,fgen,0⟩,gen,ql.map (inBk 2),bk,till,count⟩ (.slice pa ql.length pc)).toArray 45))):=Lib.hid ⟨0,Nat.zero_le _,rfl,by
     rw [mixL_zero,hb2]
     exact (g1.cells (encRL ⟨1,⟨⟨src,dst,proto,sport,dport⟩,fbk,fgen,0⟩,gen,ql.map (inBk 2),bk,till,count⟩ (.slice pa ql.length pc)).toArray 45).sel2 (R1:=[_,_]) [1,0] (by decide) rfl⟩
    clear KP g1 r2
    go_wp2_with fail
    rw [← hb2]
    clear hb2
    go_loopw [34] (RinRel 2 ⟨1,⟨⟨src,dst,proto,sport,dport⟩,fbk,fgen,0⟩,gen,ql.map (inBk 2),bk,till,count⟩ (.slice pa ql.length pc) ql b2 (w.heap.size+1) (encRL zeroRec (.slice none 0 0)).toArray F0 w0 QQ) (fun k _=>ql.length - (intOf k).toNat)
    case atStart=>exact HR.out
    case round=>
     obtain⟨k,hk,rfl,hio⟩:=hrel
     clear HR
     by_cases hlt:k < ql.length
     ·exact absurd hlt (by rw [HL0.out];omega)
     ·have hge:(ql.length:Int)≤(k:Int):=Int.ofNat_le.2 (Nat.le_of_not_lt hlt)
      obtain rfl:k=ql.length:=by omega
      rw [mixL_all,bkR_map] at hio
      obtain⟨⟨q1,q2⟩,q3,q4⟩:=rec_end hio rfl
      have Q2:=Lib.hid q2
      have Q3:=Lib.hid (And.intro q3 q4)
      clear hio q2 q3 q4 hk hlt
      go_wp2_with (refine wpList_load_row rfl 45 (.tmp 5) rfl b2 rfl 45 _ (0,0) _ q1 Tryz.underlying45 rfl (by kernel_rfl) ?_;refine wpList_store_mid (op:=⟨none,Op.store 45 (.tmp 4) (.tmp 45),_,_,_,_⟩) (by rfl) 45 (.tmp 4) (.tmp 45) rfl (w.heap.size+1) 0 (encRL ⟨1,⟨⟨src,dst,proto,sport,dport⟩,fbk,fgen,0⟩,gen,ql.map (inBk 2),bk,till,count⟩ (.slice pa ql.length pc)).toArray (by rfl) (by rfl) Q2.out (by kernel_rfl) (encRL_all _ _ _ _) ?_)
      exact bodyPost_ret (results_cell_row Tryz.results40 _ _ (w.heap.size+1) 45 _ (0,0) _ rfl Q3.out.1 Tryz.underlying45 rfl (by kernel_rfl)) rfl ⟨_,rfl,HD.out _ _ Q3.out.2⟩
   ·have e2:inFl 3 ⟨⟨src,dst,proto,sport,dport⟩,fbk,fgen,fseen⟩=⟨⟨src,dst,proto,sport,dport⟩,fbk,fgen,fseen⟩:=rfl
    rw [e,e2]
    clear e e2
    go_enter Tryz.func40,Tryz.ntmps40
    go_wp2_with fail
    refine (KV.out _).mono ?_
    rintro e w1 ⟨rfl,rfl⟩
    clear KV
    go_wp2_with fail
    refine KP.out.mono ?_
    rintro e w1 ⟨pv,rfl,g1⟩
    obtain⟨F2,r2⟩:=g1.get 0 rfl
    obtain⟨pa,pc,rfl,-,-,-⟩:=RowA.shape r2
    obtain⟨b2,hb2⟩:∃ b2,b2=w1.heap.size:=⟨_,rfl⟩
    have HR:Hid (RinRel 3 ⟨1,⟨⟨src,dst,proto,sport,dport⟩,fbk,fgen,fseen⟩,gen,ql.map (inBk 3),bk,till,count⟩ (.slice pa ql.length pc) ql b2 (w.heap.size+1) (encRL zeroRec (.slice none 0 0)).toArray F0 w0 QQ (.int .i64 0) (w1.alloc (.cells (encRL ⟨1,⟨⟨src,dst,proto,sport,dport⟩,fbk,fgen,fseen⟩,gen,ql.map (inBk 3),bk,till,count⟩ (.slice pa ql.length pc)).toArray 45))):=Lib.hid ⟨0,Nat.zero_le _,rfl,by
     rw [mixL_zero,hb2]
     exact (g1.cells (encRL ⟨1,⟨⟨src,dst,proto,sport,dport⟩,fbk,fgen,fseen⟩,gen,ql.map (inBk 3),bk,till,count⟩ (.slice pa ql.length pc)).toArray 45).sel2 (R1:=[_,_]) [1,0] (by decide) rfl⟩
    clear KP g1 r2
    go_wp2_with fail
    rw [← hb2]
    clear hb2
    go_loopw [34] (RinRel 3 ⟨1,⟨⟨src,dst,proto,sport,dport⟩,fbk,fgen,fseen⟩,gen,ql.map (inBk 3),bk,till,count⟩ (.slice pa ql.length pc) ql b2 (w.heap.size+1) (encRL zeroRec (.slice none 0 0)).toArray F0 w0 QQ) (fun k _=>ql.length - (intOf k).toNat)
    case atStart=>exact HR.out
    case round=>
     obtain⟨k,hk,rfl,hio⟩:=hrel
     clear HR
     by_cases hlt:k < ql.length
     ·exact absurd hlt (by rw [HL0.out];omega)
     ·have hge:(ql.length:Int)≤(k:Int):=Int.ofNat_le.2 (Nat.le_of_not_lt hlt)
      obtain rfl:k=ql.length:=by omega
      rw [mixL_all,bkR_map] at hio
      obtain⟨⟨q1,q2⟩,q3,q4⟩:=rec_end hio rfl
      have Q2:=Lib.hid q2
      have Q3:=Lib.hid (And.intro q3 q4)
      clear hio q2 q3 q4 hk hlt
      go_wp2_with (refine wpList_load_row rfl 45 (.tmp 5) rfl b2 rfl 45 _ (0,0) _ q1 Tryz.underlying45 rfl (by kernel_rfl) ?_;refine wpList_store_mid (op:=⟨none,Op.store 45 (.tmp 4) (.tmp 45),_,_,_,_⟩) (by rfl) 45 (.tmp 4) (.tmp 45) rfl (w.heap.size+1) 0 (encRL ⟨1,⟨⟨src,dst,proto,sport,dport⟩,fbk,fgen,fseen⟩,gen,ql.map (inBk 3),bk,till,count⟩ (.slice pa ql.length pc)).toArray (by rfl) (by rfl) Q2.out (by kernel_rfl) (encRL_all _ _ _ _) ?_)
      exact bodyPost_ret (results_cell_row Tryz.results40 _ _ (w.heap.size+1) 45 _ (0,0) _ rfl Q3.out.1 Tryz.underlying45 rfl (by kernel_rfl)) rfl ⟨_,rfl,HD.out _ _ Q3.out.2⟩
  ·have q0:(kind == 1)=false:=by rw [hpk];exact beq_eq_false_iff_ne.2 k1
   rw [if_neg k1] at e
   rw [e]
   clear e hkk hbl k1 hpk
   have HV13:=Lib.hid hv13
   clear hv13
   go_enter Tryz.func40,Tryz.ntmps40
   go_wp2_with fail
   refine (KV.out _).mono ?_
   rintro e w1 ⟨rfl,rfl⟩
   clear KV
   go_wp2_with fail
   refine KP.out.mono ?_
   rintro e w1 ⟨pv,rfl,g1⟩
   obtain⟨F2,r2⟩:=g1.get 0 rfl
   obtain⟨pa,pc,rfl,-,-,-⟩:=RowA.shape r2
   obtain⟨b2,hb2⟩:∃ b2,b2=w1.heap.size:=⟨_,rfl⟩
   have HR:Hid (RinRel v ⟨kind,⟨⟨src,dst,proto,sport,dport⟩,fbk,fgen,fseen⟩,gen,ql.map (inBk v),bk,till,count⟩ (.slice pa ql.length pc) ql b2 (w.heap.size+1) (encRL zeroRec (.slice none 0 0)).toArray F0 w0 QQ (.int .i64 0) (w1.alloc (.cells (encRL ⟨kind,⟨⟨src,dst,proto,sport,dport⟩,fbk,fgen,fseen⟩,gen,ql.map (inBk v),bk,till,count⟩ (.slice pa ql.length pc)).toArray 45))):=Lib.hid ⟨0,Nat.zero_le _,rfl,by
    rw [mixL_zero,hb2]
    exact (g1.cells (encRL ⟨kind,⟨⟨src,dst,proto,sport,dport⟩,fbk,fgen,fseen⟩,gen,ql.map (inBk v),bk,till,count⟩ (.slice pa ql.length pc)).toArray 45).sel2 (R1:=[_,_]) [1,0] (by decide) rfl⟩
   clear KP g1 r2
   go_wp2_with fail
   rw [← hb2]
   clear hb2
   go_loopw [34] (RinRel v ⟨kind,⟨⟨src,dst,proto,sport,dport⟩,fbk,fgen,fseen⟩,gen,ql.map (inBk v),bk,till,count⟩ (.slice pa ql.length pc) ql b2 (w.heap.size+1) (encRL zeroRec (.slice none 0 0)).toArray F0 w0 QQ) (fun k _=>ql.length - (intOf k).toNat)
   case atStart=>exact HR.out
   case round=>
    obtain⟨k,hk,rfl,hio⟩:=hrel
    clear HR
    by_cases hlt:k < ql.length
    ·obtain⟨b,hb⟩:∃ b,ql[k]?=some b:=⟨ql[k],List.getElem?_eq_getElem hlt⟩
     obtain⟨F3,r3⟩:=hio.get 0 rfl
     have hlt':(k:Int) < (ql.length:Int):=Int.ofNat_lt.2 hlt
     have hw2:wrap64 ((k:Int)+1)=(k:Int)+1:=by have:=HBL.out;unfold wrap64;omega
     have y0:wr.cell? ⟨b2,10,none⟩=some (.slice pa ql.length pc):=cell_of (hio.block 1 rfl) rfl
     have hlen:(bkV (mixL v ql k)).length=ql.length * 3:=by rw [bkV_length,mixL_length]
     have hj:k * 3+2 < (bkV (mixL v ql k)).length:=by omega
     obtain⟨u0,hu0⟩:∃ u,(bkV (mixL v ql k))[k * 3+2]?=some u:=⟨_,List.getElem?_eq_getElem hj⟩
     obtain⟨g,rfl,c0⟩:=r3.at.2 (k * 3+2) _ hu0
     have hf:wr.frozen? ⟨g,k * 3+2,none⟩=false:=by
      have:=(r3.there (o:=k * 3+2) (m:=1) (by omega) 0 (by omega)).2
      simpa using this
     by_cases hv2:v < 2
     ·have HN:=Lib.hid (row_put hio 0 rfl (o:=k * 3+2) (us:=[.int .i64 1]) (by simp;omega))
      have HP:=Lib.hid (mixL_put hv2 hb)
      have HN2:Hid (RinRel v ⟨kind,⟨⟨src,dst,proto,sport,dport⟩,fbk,fgen,fseen⟩,gen,ql.map (inBk v),bk,till,count⟩ (.slice (some ⟨g,0,none⟩) ql.length pc) ql b2 (w.heap.size+1) (encRL zeroRec (.slice none 0 0)).toArray F0 w0 QQ (.int .i64 ((k:Int)+1)) (wr.setCell ⟨g,k * 3+2,none⟩ (.int .i64 1))):=Lib.hid (rin_next hb (by rw [← HP.out];exact HN.out))
      clear hio r3 hb hlen hj hk hlt HN HP hu0
      go_wp2_with fail
      go_roundw
      case rel=>(try rw [hw2]);exact HN2.out
      case measure=>(try rw [hw2]);exact meas_lt hlt'
     ·have q:decide (v < 2)=false:=decide_eq_false hv2
      have HN2:Hid (RinRel v ⟨kind,⟨⟨src,dst,proto,sport,dport⟩,fbk,fgen,fseen⟩,gen,ql.map (inBk v),bk,till,count⟩ (.slice (some ⟨g,0,none⟩) ql.length pc) ql b2 (w.heap.size+1) (encRL zeroRec (.slice none 0 0)).toArray F0 w0 QQ (.int .i64 ((k:Int)+1)) wr):=Lib.hid (rin_next hb (by rw [mixL_wide hv2] at hio ⊢;exact hio))
      clear hio r3 hb hlen hj hk hlt hv2 hu0
      go_wp2_with fail
      go_roundw
      case rel=>(try rw [hw2]);exact HN2.out
      case measure=>(try rw [hw2]);exact meas_lt hlt'
    ·have hge:(ql.length:Int)≤(k:Int):=Int.ofNat_le.2 (Nat.le_of_not_lt hlt)
     obtain rfl:k=ql.length:=by omega
     rw [mixL_all,bkR_map] at hio
     obtain⟨⟨q1,q2⟩,q3,q4⟩:=rec_end hio rfl
     have Q2:=Lib.hid q2
     have Q3:=Lib.hid (And.intro q3 q4)
     clear hio q2 q3 q4 hk hlt
     go_wp2_with (refine wpList_load_row rfl 45 (.tmp 5) rfl b2 rfl 45 _ (0,0) _ q1 Tryz.underlying45 rfl (by kernel_rfl) ?_;refine wpList_store_mid (op:=⟨none,Op.store 45 (.tmp 4) (.tmp 45),_,_,_,_⟩) (by rfl) 45 (.tmp 4) (.tmp 45) rfl (w.heap.size+1) 0 (encRL ⟨kind,⟨⟨src,dst,proto,sport,dport⟩,fbk,fgen,fseen⟩,gen,ql.map (inBk v),bk,till,count⟩ (.slice pa ql.length pc)).toArray (by rfl) (by rfl) Q2.out (by kernel_rfl) (encRL_all _ _ _ _) ?_)
     exact bodyPost_ret (results_cell_row Tryz.results40 _ _ (w.heap.size+1) 45 _ (0,0) _ rfl Q3.out.1 Tryz.underlying45 rfl (by kernel_rfl)) rfl ⟨_,rfl,HD.out _ _ Q3.out.2⟩
end
section
variable {F0:List Nat} {w0 w:World} {R:List Asrt} {bw:Nat} {l:List UInt8}
theorem o_wi64 (h:In F0 w0 w R) (i:Nat) (hA:R[i]?=some (WA bw l)) (hl:l.length≤1000000) (n:Int) :
  Calls Tryz.prog 175 #[.pointer (some ⟨bw,0,none⟩),.int .i64 n] w fun e w'=>e=.returned (.tuple #[])∧In F0 w0 w' (R.set i (WA bw (l++be (u64 n) 8))):=by
 have c:=Lib.hid (o_wput h i hA hl (u64 n) 8 (u64_lt n) (by omega))
 rw [← u64_eq] at c
 clear h hA hl
 go_enter Tryz.func175,Tryz.ntmps175
 go_wp2_with fail
 refine c.out.mono ?_
 rintro e w1 ⟨rfl,ho⟩
 have HO:=Lib.hid ho
 clear ho c
 go_wp2_with fail
 go_end0
 exact⟨rfl,HO.out⟩
end
end Go.Proofs.YtaopfagclnocdaaGreat
