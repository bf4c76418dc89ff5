/- Rows.StoreRefusesSaid -/
import Derived.Test.YtpmmiljakbojaaaGreatRF2
import Derived.Deep.MidRow
import Derived.Lib.SliceRun
import Derived.Test.YtpmmiljakbojaaaGreatRF12
import Derived.Test.YtpmmiljakbojaaaGreatRF3
namespace Go.Proofs.YtpmmiljakbojaaaGreat
open Go.RowKit
set_option linter.unusedVariables false
set_option maxHeartbeats 64000000
set_option maxRecDepth 100000
theorem setCells_heap:∀ (us:List Value) (w:World) (g o:Nat) (C:Array Value) (T:TypeId) (fz:Nat×Nat),w.heap[g]?=some (.cells C T fz)→o+us.length≤C.size →
  ∃ C',(w.setCells g o us).heap[g]?=some (.cells C' T fz)∧C'.toList=C.toList.take o++us++C.toList.drop (o+us.length)∧Mod [g] w (w.setCells g o us)
 | [],w,g,o,C,T,fz,h,_=>⟨C,h,by simp,Mod.refl _ _⟩
 | v::r,w,g,o,C,T,fz,h,hl=>by
  have hl':o+1+r.length≤C.size:=by simp at hl;omega
  have h1:=hp_setCell_same (o:=o) (v:=v) h
  obtain⟨C',e1,e2,e3⟩:=setCells_heap r (w.setCell ⟨g,o,none⟩ v) g (o+1) _ T fz h1 (by simpa using hl')
  refine⟨C',e1,?_,((Mod.refl [g] w).setCell (p:=⟨g,o,none⟩) (Or.inl (by simp)) v).trans' e3⟩
  rw [e2]
  have ho:o < C.toList.length:=by rw [Array.length_toList];omega
  rw [Array.toList_setIfInBounds,List.take_set,List.drop_set,if_pos (by omega),List.take_add_one]
  rw [show (C.toList[o]?).toList=[C.toList[o]] by rw [List.getElem?_eq_getElem ho];rfl]
  rw [List.set_append_right _ _ (by simp;omega)]
  rw [show o - (C.toList.take o).length=0 by simp;omega]
  simp only [List.set_cons_zero,List.append_assoc,List.cons_append,List.nil_append,List.length_cons]
  rw [show o+1+r.length=o+(r.length+1) by omega]
def putAt (xs:List Value) (o:Nat) (us:List Value):List Value:=xs.take o++us++xs.drop (o+us.length)
theorem putAt_length {xs us:List Value} {o:Nat} (h:o+us.length≤xs.length):(putAt xs o us).length=xs.length:=by unfold putAt;simp;omega
theorem RowA.put {T:TypeId} {k:Nat} {g n' n cap:Nat} {xs:List Value} {w:World} {F:List Nat} (h:RowA T k (.slice (some ⟨g,0,none⟩) n' cap) n xs w F) {o:Nat} {us:List Value} (ho:o+us.length≤xs.length) :
  RowA T k (.slice (some ⟨g,0,none⟩) n' cap) n (putAt xs o us) (w.setCells g o us) F∧Mod F w (w.setCells g o us):=by
 obtain⟨h0,h1,h2⟩:=h
 rcases h2 with ⟨e,h3⟩|⟨g',cap',cur,e,h3,h4,h5,h6,h7,h8⟩
 ·cases e
 ·cases e
  have hlen:xs.length≤cur.size:=by
   have:=congrArg List.length h8
   simp at this;omega
  obtain⟨C',e1,e2,e3⟩:=setCells_heap us w g o cur T (0,0) h4 (by omega)
  refine⟨⟨h0,by rw [putAt_length ho,h1],Or.inr ⟨g,cap,C',rfl,h3,e1,h5,h6,?_,?_⟩⟩,e3.mono (fun b hb=>by rw [h0];simpa [Value.ownBlock] using hb)⟩
  ·rw [← Array.length_toList,e2];simp;omega
  ·rw [e2]
   obtain⟨D,e4⟩:∃ D,cur.toList=xs++D:=⟨cur.toList.drop (n' * k),by rw [← h8,List.take_append_drop]⟩
   have hx:xs.length=n' * k:=h1
   rw [e4]
   unfold putAt
   have a1:(xs++D).take o=xs.take o:=List.take_append_of_le_length (by omega)
   have a2:(xs++D).drop (o+us.length)=xs.drop (o+us.length)++D:=List.drop_append_of_le_length (by omega)
   rw [a1,a2,← List.append_assoc,List.take_append_of_le_length (by simp;omega),List.take_of_length_le (by simp;omega)]
theorem RowA.there {T:TypeId} {k:Nat} {g n' n cap:Nat} {xs:List Value} {w:World} {F:List Nat} (h:RowA T k (.slice (some ⟨g,0,none⟩) n' cap) n xs w F) {o m:Nat} (ho:o+m≤xs.length):w.there g o m:=by
 obtain⟨h0,h1,h2⟩:=h
 rcases h2 with ⟨e,h3⟩|⟨g',cap',cur,e,h3,h4,h5,h6,h7,h8⟩
 ·cases e
 ·cases e
  have hlen:xs.length≤cur.size:=by
   have:=congrArg List.length h8
   simp at this;omega
  intro j hj
  refine⟨?_,free_of h4⟩
  rw [cell_of h4 (v:=cur[o+j]'(by omega)) (Array.getElem?_eq_getElem _)];rfl
theorem row_put {F0:List Nat} {w0 w:World} {R:List Asrt} {T:TypeId} {k g n' n cap:Nat} {xs:List Value} (h:In F0 w0 w R) (i:Nat) (hA:R[i]?=some (RowA T k (.slice (some ⟨g,0,none⟩) n' cap) n xs)) {o:Nat} {us:List Value} (ho:o+us.length≤xs.length) :
  In F0 w0 (w.setCells g o us) (R.set i (RowA T k (.slice (some ⟨g,0,none⟩) n' cap) n (putAt xs o us))):=
 h.step i hA (RowA.framed _ _ _ _ _) fun F hF=>⟨F,(hF.put ho).1,Grew.refl _ _,(hF.put ho).2⟩
theorem bkV_append (a b:List Bk):bkV (a++b)=bkV a++bkV b:=by simp [bkV]
theorem bkV_cons (b:Bk) (l:List Bk):bkV (b::l)=encB b++bkV l:=by simp [bkV]
def mixL (v:Int) (l:List Bk) (k:Nat):List Bk:=(l.take k).map (inBk v)++l.drop k
theorem mixL_zero (v:Int) (l:List Bk):mixL v l 0=l:=rfl
theorem mixL_all (v:Int) (l:List Bk):mixL v l l.length=l.map (inBk v):=by unfold mixL;simp
theorem mixL_length (v:Int) (l:List Bk) (k:Nat):(mixL v l k).length=l.length:=by unfold mixL;simp;omega
theorem mixL_at {v:Int} {l:List Bk} {k:Nat} {b:Bk} (h:l[k]?=some b):mixL v l k=(l.take k).map (inBk v)++b::l.drop (k+1)∧mixL v l (k+1)=(l.take k).map (inBk v)++inBk v b::l.drop (k+1):=by
 obtain⟨hk,rfl⟩:=List.getElem?_eq_some_iff.1 h
 unfold mixL
 refine⟨by rw [List.drop_eq_getElem_cons hk],?_⟩
 rw [List.take_add_one,h,Option.toList_some,List.map_append,List.append_assoc];rfl
theorem mixL_wide {v:Int} (hv:¬ v < 2) (l:List Bk) (k:Nat):mixL v l k=l:=by
 have e:inBk v=id:=by funext b;unfold inBk;rw [if_neg hv];rfl
 unfold mixL;rw [e];simp
theorem mixL_put {v:Int} {l:List Bk} {k:Nat} {b:Bk} (hv:v < 2) (h:l[k]?=some b):putAt (bkV (mixL v l k)) (k * 3+2) [.int .i64 1]=bkV (mixL v l (k+1)):=by
 have hk:=(List.getElem?_eq_some_iff.1 h).1
 obtain⟨e1,e2⟩:=mixL_at (v:=v) h
 rw [e1,e2,bkV_append,bkV_append,bkV_cons,bkV_cons]
 have hl:(bkV ((l.take k).map (inBk v))).length=k * 3:=by rw [bkV_length];simp;omega
 generalize bkV ((l.take k).map (inBk v))=X at *
 generalize bkV (l.drop (k+1))=Y at *
 have e3:encB (inBk v b)=[.int .i64 b.id,.int .u32 b.addr,.int .i64 1]:=by unfold inBk;rw [if_pos hv]
 rw [e3]
 unfold putAt
 rw [← hl]
 have e4:(X++(encB b++Y)).take (X.length+2)=X++[.int .i64 b.id,.int .u32 b.addr]:=by
  rw [List.take_append,List.take_of_length_le (by omega)]
  simp
 have e5:(X++(encB b++Y)).drop (X.length+2+[Value.int .i64 1].length)=Y:=by
  have e6:X.length+2+[Value.int .i64 1].length - X.length=3:=by simp;omega
  rw [List.drop_append,List.drop_of_length_le (by simp;omega),e6]
  rfl
 rw [e4,e5]
 simp
theorem bkR_map {pv:Value} {l:List Bk} {f:Bk→Bk}:RowA 119 3 pv l.length (bkV (l.map f))=BkR pv (l.map f):=by unfold BkR;rw [List.length_map]
section
variable {F0:List Nat} {w0 w:World} {R:List Asrt}
def RinRel (v:Int) (y:Rec) (pv:Value) (l:List Bk) (b2 b1:Nat) (C1:Array Value) (F0:List Nat) (w0:World) (Q:List Asrt) (i:Value) (wr:World):Prop:=
 ∃ k:Nat,k≤l.length∧i=.int .i64 k∧In F0 w0 wr (RowA 119 3 pv l.length (bkV (mixL v l k))::Cells b2 (encRL y pv).toArray 39::Cells b1 C1 39::Q)
theorem rin_next {v:Int} {y:Rec} {pv:Value} {l:List Bk} {b2 b1:Nat} {C1:Array Value} {Q:List Asrt} {k:Nat} {b:Bk} (hb:l[k]?=some b) (h:In F0 w0 w (RowA 119 3 pv l.length (bkV (mixL v l (k+1)))::Cells b2 (encRL y pv).toArray 39::Cells b1 C1 39::Q)):RinRel v y pv l b2 b1 C1 F0 w0 Q (.int .i64 ((k:Int)+1)) w:=
 ⟨k+1,(List.getElem?_eq_some_iff.1 hb).1,by rw [Int.natCast_add];rfl,h⟩
theorem o_rcin {r:Rec} {A:Option Addr} {c:Nat} (v:Int) (hs:BksAt F0 w0 R A r.bks) (hn:A=none→c=0) (hl:r.bks.length≤1000000) (h:In F0 w0 w R):Calls Tryz.prog 28 #[agR r A c,.int .i64 v] w (RecPost (inRec r v) F0 w0 R):=by
 have KV:=Lib.hid (rc_version v)
 cases hv:verOk v with
 | false=>
  have e:inRec r v=zeroRec:=by unfold inRec;rw [if_pos hv]
  have HH:=Lib.hid (fun o o2=>((h.alloc o).alloc o2).rownil 119 3)
  rw [e];rw [hv] at KV
  clear e h hs hn hl hv
  obtain⟨kind,⟨⟨src,dst,proto,sport,dport⟩,fbk,fgen,fseen⟩,gen,bks,bk,till,count⟩:=r
  go_enter Tryz.func28,Tryz.ntmps28
  go_wp2_with fail
  refine (KV.out _).mono ?_
  rintro e w1 ⟨rfl,rfl⟩
  clear KV
  go_wp2_with fail
  exact bodyPost_ret (results_cell_row Tryz.results28 _ _ (w.heap.size+1) 39 _ (0,0) _ rfl (heap_alloc2_new _ _ _) Tryz.underlying39 rfl (by kernel_rfl)) rfl ⟨.slice none 0 0,rfl,HH.out _ _⟩
 | true=>
  rw [hv] at KV
  have hv13:v=1∨v=2∨v=3:=by have:1≤v∧v≤3:=of_decide_eq_true hv;omega
  have e:inRec r v=⟨(plainRec r).kind,if r.kind=1 then inFl v (plainRec r).fl else (plainRec r).fl,(plainRec r).gen,(plainRec r).bks.map (inBk v),(plainRec r).bk,(plainRec r).till,(plainRec r).count⟩:=by unfold inRec;rw [if_neg (by simp [hv])]
  have hpk:(plainRec r).kind=r.kind:=plain_kind r
  obtain⟨C0,hC0⟩:∃ C,C=(encRL r (.slice A r.bks.length c)).toArray:=⟨_,rfl⟩
  have h2:In F0 w0 ((w.alloc (.cells C0 39)).alloc (.cells (encRL zeroRec (.slice none 0 0)).toArray 39)) (Cells (w.heap.size+1) (encRL zeroRec (.slice none 0 0)).toArray 39::Cells w.heap.size C0 39::R):=by
   have h2:=(h.cells C0 39).cells (encRL zeroRec (.slice none 0 0)).toArray 39
   simp only [World.size_alloc] at h2
   exact h2
  have KP:=Lib.hid (o_rcplain (c:=c) (fun w' h'=>hs w' h'.drop.drop) hn hl h2)
  unfold RecPost at KP
  obtain⟨QQ,hQQ⟩:∃ QQ,QQ=Cells w.heap.size C0 39::R:=⟨_,rfl⟩
  rw [← hQQ] at KP
  have HD:Hid (∀ w' X,In F0 w0 w' (X::QQ)→In F0 w0 w' (X::R)):=Lib.hid fun w' X h'=>by rw [hQQ] at h';exact h'.sel2 (R1:=[_,_]) [0] (by decide) rfl
  clear hQQ
  have hkk:r.kind=1→(plainRec r).bks=[]:=fun e=>by unfold plainRec;rw [if_pos e]
  have hbl:(plainRec r).bks.length≤1000000:=by
   unfold plainRec
   repeat' split
   all_goals first | exact hl | exact Nat.zero_le _
  generalize plainRec r=q at *
  clear h h2 hs hn hl hv
  obtain⟨kind0,⟨⟨src0,dst0,proto0,sport0,dport0⟩,fbk0,fgen0,fseen0⟩,gen0,bks0,bk0,till0,count0⟩:=r
  obtain⟨kind,⟨⟨src,dst,proto,sport,dport⟩,fbk,fgen,fseen⟩,gen,ql,bk,till,count⟩:=q
  simp only at hpk hkk hbl e KP hC0
  have HBL:=Lib.hid hbl
  subst hC0
  by_cases k1:kind0=1
  ·subst hpk
   subst k1
   have hq:=hkk rfl
   have HL0:Hid (ql.length=0):=Lib.hid (by rw [hq];rfl)
   rw [if_pos rfl] at e
   clear hkk hbl hq
   rcases hv13 with rfl | rfl | rfl
   ·have e2:inFl 1 ⟨⟨src,dst,proto,sport,dport⟩,fbk,fgen,fseen⟩=⟨⟨src,dst,proto,sport,dport⟩,fbk,0,0⟩:=rfl
    rw [e,e2]
    clear e e2
    go_enter Tryz.func28,Tryz.ntmps28
    go_wp2_with fail
    refine (KV.out _).mono ?_
    rintro e w1 ⟨rfl,rfl⟩
    clear KV
    go_wp2_with fail
    refine KP.out.mono ?_
    rintro e w1 ⟨pv,rfl,g1⟩
    obtain⟨F2,r2⟩:=g1.get 0 rfl
    obtain⟨pa,pc,rfl,-,-,-⟩:=RowA.shape r2
    obtain⟨b2,hb2⟩:∃ b2,b2=w1.heap.size:=⟨_,rfl⟩
    have HR:Hid (RinRel 1 ⟨1,⟨⟨src,dst,proto,sport,dport⟩,fbk,0,0⟩,gen,ql.map (inBk 1),bk,till,count⟩ (.slice pa ql.length pc) ql b2 (w.heap.size+1) (encRL zeroRec (.slice none 0 0)).toArray F0 w0 QQ (.int .i64 0) (w1.alloc (.cells (encRL ⟨1,⟨⟨src,dst,proto,sport,dport⟩,fbk,0,0⟩,gen,ql.map (inBk 1),bk,till,count⟩ (.slice pa ql.length pc)).toArray 39))):=Lib.hid ⟨0,Nat.zero_le _,rfl,by
     rw [mixL_zero,hb2]
     exact (g1.cells (encRL ⟨1,⟨⟨src,dst,proto,sport,dport⟩,fbk,0,0⟩,gen,ql.map (inBk 1),bk,till,count⟩ (.slice pa ql.length pc)).toArray 39).sel2 (R1:=[_,_]) [1,0] (by decide) rfl⟩
    clear KP g1 r2
    go_wp2_with fail
    rw [← hb2]
    clear hb2
    go_loopw [34] (RinRel 1 ⟨1,⟨⟨src,dst,proto,sport,dport⟩,fbk,0,0⟩,gen,ql.map (inBk 1),bk,till,count⟩ (.slice pa ql.length pc) ql b2 (w.heap.size+1) (encRL zeroRec (.slice none 0 0)).toArray F0 w0 QQ) (fun k _=>ql.length - (intOf k).toNat)
    case atStart=>exact HR.out
    case round=>
     obtain⟨k,hk,rfl,hio⟩:=hrel
     clear HR
     by_cases hlt:k < ql.length
     ·exact absurd hlt (by rw [HL0.out];omega)
     ·have hge:(ql.length:Int)≤(k:Int):=Int.ofNat_le.2 (Nat.le_of_not_lt hlt)
      obtain rfl:k=ql.length:=by omega
      rw [mixL_all,bkR_map] at hio
      obtain⟨⟨q1,q2⟩,q3,q4⟩:=rec_end hio rfl
      have Q2:=Lib.hid q2
      have Q3:=Lib.hid (And.intro q3 q4)
      clear hio q2 q3 q4 hk hlt
      go_wp2_with (refine wpList_load_row rfl 39 (.tmp 5) rfl b2 rfl 39 _ (0,0) _ q1 Tryz.underlying39 rfl (by kernel_rfl) ?_;refine wpList_store_mid (op:=⟨none,Op.store 39 (.tmp 4) (.tmp 45),_,_,_,_⟩) (by rfl) 39 (.tmp 4) (.tmp 45) rfl (w.heap.size+1) 0 (encRL ⟨1,⟨⟨src,dst,proto,sport,dport⟩,fbk,0,0⟩,gen,ql.map (inBk 1),bk,till,count⟩ (.slice pa ql.length pc)).toArray (by rfl) (by rfl) Q2.out (by kernel_rfl) (encRL_all _ _ _ _) ?_)
      exact bodyPost_ret (results_cell_row Tryz.results28 _ _ (w.heap.size+1) 39 _ (0,0) _ rfl Q3.out.1 Tryz.underlying39 rfl (by kernel_rfl)) rfl ⟨_,rfl,HD.out _ _ Q3.out.2⟩
   ·have e2:inFl 2 ⟨⟨src,dst,proto,sport,dport⟩,fbk,fgen,fseen⟩=⟨⟨src,dst,proto,sport,dport⟩,fbk,fgen,0⟩:=rfl
    rw [e,e2]
    clear e e2
    go_enter Tryz.func28,Tryz.ntmps28
    go_wp2_with fail
    refine (KV.out _).mono ?_
    rintro e w1 ⟨rfl,rfl⟩
    clear KV
    go_wp2_with fail
    refine KP.out.mono ?_
    rintro e w1 ⟨pv,rfl,g1⟩
    obtain⟨F2,r2⟩:=g1.get 0 rfl
    obtain⟨pa,pc,rfl,-,-,-⟩:=RowA.shape r2
    obtain⟨b2,hb2⟩:∃ b2,b2=w1.heap.size:=⟨_,rfl⟩
    have HR:Hid (RinRel 2 ⟨1,⟨⟨src,dst,proto,sport,dport⟩,fbk,fgen,0⟩,gen,ql.map (inBk 2),bk,till,count⟩ (.slice pa ql.length pc) ql b2 (w.heap.size+1) (encRL zeroRec (.slice none 0 0)).toArray F0 w0 QQ (.int .i64 0) (w1.alloc (.cells (encRL ⟨1,⟨⟨src,dst,proto,sport,dport⟩,fbk,fgen,0⟩,gen,ql.map (inBk 2),bk,till,count⟩ (.slice pa ql.length pc)).toArray 39))):=Lib.hid ⟨0,Nat.zero_le _,rfl,by
     rw [mixL_zero,hb2]
     exact (g1.cells (encRL ⟨1,⟨⟨src,dst,proto,sport,dport⟩,fbk,fgen,0⟩,gen,ql.map (inBk 2),bk,till,count⟩ (.slice pa ql.length pc)).toArray 39).sel2 (R1:=[_,_]) [1,0] (by decide) rfl⟩
    clear KP g1 r2
    go_wp2_with fail
    rw [← hb2]
    clear hb2
    go_loopw [34] (RinRel 2 ⟨1,⟨⟨src,dst,proto,sport,dport⟩,fbk,fgen,0⟩,gen,ql.map (inBk 2),bk,till,count⟩ (.slice pa ql.length pc) ql b2 (w.heap.size+1) (encRL zeroRec (.slice none 0 0)).toArray F0 w0 QQ) (fun k _=>ql.length - (intOf k).toNat)
    case atStart=>exact HR.out
    case round=>
     obtain⟨k,hk,rfl,hio⟩:=hrel
     clear HR
     by_cases hlt:k < ql.length
     ·exact absurd hlt (by rw [HL0.out];omega)
     ·have hge:(ql.length:Int)≤(k:Int):=Int.ofNat_le.2 (Nat.le_of_not_lt hlt)
      obtain rfl:k=ql.length:=by omega
      rw [mixL_all,bkR_map] at hio
      obtain⟨⟨q1,q2⟩,q3,q4⟩:=rec_end hio rfl
      have Q2:=Lib.hid q2
      have Q3:=Lib.hid (And.intro q3 q4)
      clear hio q2 q3 q4 hk hlt
      go_wp2_with (refine wpList_load_row rfl 39 (.tmp 5) rfl b2 rfl 39 _ (0,0) _ q1 Tryz.underlying39 rfl (by kernel_rfl) ?_;refine wpList_store_mid (op:=⟨none,Op.store 39 (.tmp 4) (.tmp 45),_,_,_,_⟩) (by rfl) 39 (.tmp 4) (.tmp 45) rfl (w.heap.size+1) 0 (encRL ⟨1,⟨⟨src,dst,proto,sport,dport⟩,fbk,fgen,0⟩,gen,ql.map (inBk 2),bk,till,count⟩ (.slice pa ql.length pc)).toArray (by rfl) (by rfl) Q2.out (by kernel_rfl) (encRL_all _ _ _ _) ?_)
      exact bodyPost_ret (results_cell_row Tryz.results28 _ _ (w.heap.size+1) 39 _ (0,0) _ rfl Q3.out.1 Tryz.underlying39 rfl (by kernel_rfl)) rfl ⟨_,rfl,HD.out _ _ Q3.out.2⟩
   ·have e2:inFl 3 ⟨⟨src,dst,proto,sport,dport⟩,fbk,fgen,fseen⟩=⟨⟨src,dst,proto,sport,dport⟩,fbk,fgen,fseen⟩:=rfl
    rw [e,e2]
    clear e e2
    go_enter Tryz.func28,Tryz.ntmps28
    go_wp2_with fail
    refine (KV.out _).mono ?_
    rintro e w1 ⟨rfl,rfl⟩
    clear KV
    go_wp2_with fail
    refine KP.out.mono ?_
    rintro e w1 ⟨pv,rfl,g1⟩
    obtain⟨F2,r2⟩:=g1.get 0 rfl
    obtain⟨pa,pc,rfl,-,-,-⟩:=RowA.shape r2
    obtain⟨b2,hb2⟩:∃ b2,b2=w1.heap.size:=⟨_,rfl⟩
    have HR:Hid (RinRel 3 ⟨1,⟨⟨src,dst,proto,sport,dport⟩,fbk,fgen,fseen⟩,gen,ql.map (inBk 3),bk,till,count⟩ (.slice pa ql.length pc) ql b2 (w.heap.size+1) (encRL zeroRec (.slice none 0 0)).toArray F0 w0 QQ (.int .i64 0) (w1.alloc (.cells (encRL ⟨1,⟨⟨src,dst,proto,sport,dport⟩,fbk,fgen,fseen⟩,gen,ql.map (inBk 3),bk,till,count⟩ (.slice pa ql.length pc)).toArray 39))):=Lib.hid ⟨0,Nat.zero_le _,rfl,by
     rw [mixL_zero,hb2]
     exact (g1.cells (encRL ⟨1,⟨⟨src,dst,proto,sport,dport⟩,fbk,fgen,fseen⟩,gen,ql.map (inBk 3),bk,till,count⟩ (.slice pa ql.length pc)).toArray 39).sel2 (R1:=[_,_]) [1,0] (by decide) rfl⟩
    clear KP g1 r2
    go_wp2_with fail
    rw [← hb2]
    clear hb2
    go_loopw [34] (RinRel 3 ⟨1,⟨⟨src,dst,proto,sport,dport⟩,fbk,fgen,fseen⟩,gen,ql.map (inBk 3),bk,till,count⟩ (.slice pa ql.length pc) ql b2 (w.heap.size+1) (encRL zeroRec (.slice none 0 0)).toArray F0 w0 QQ) (fun k _=>ql.length - (intOf k).toNat)
    case atStart=>exact HR.out
    case round=>
     obtain⟨k,hk,rfl,hio⟩:=hrel
     clear HR
     by_cases hlt:k < ql.length
     ·exact absurd hlt (by rw [HL0.out];omega)
     ·have hge:(ql.length:Int)≤(k:Int):=Int.ofNat_le.2 (Nat.le_of_not_lt hlt)
      obtain rfl:k=ql.length:=by omega
      rw [mixL_all,bkR_map] at hio
      obtain⟨⟨q1,q2⟩,q3,q4⟩:=rec_end hio rfl
      have Q2:=Lib.hid q2
      have Q3:=Lib.hid (And.intro q3 q4)
      clear hio q2 q3 q4 hk hlt
      go_wp2_with (refine wpList_load_row rfl 39 (.tmp 5) rfl b2 rfl 39 _ (0,0) _ q1 Tryz.underlying39 rfl (by kernel_rfl) ?_;refine wpList_store_mid (op:=⟨none,Op.store 39 (.tmp 4) (.tmp 45),_,_,_,_⟩) (by rfl) 39 (.tmp 4) (.tmp 45) rfl (w.heap.size+1) 0 (encRL ⟨1,⟨⟨src,dst,proto,sport,dport⟩,fbk,fgen,fseen⟩,gen,ql.map (inBk 3),bk,till,count⟩ (.slice pa ql.length pc)).toArray (by rfl) (by rfl) Q2.out (by kernel_rfl) (encRL_all _ _ _ _) ?_)
      exact bodyPost_ret (results_cell_row Tryz.results28 _ _ (w.heap.size+1) 39 _ (0,0) _ rfl Q3.out.1 Tryz.underlying39 rfl (by kernel_rfl)) rfl ⟨_,rfl,HD.out _ _ Q3.out.2⟩
  ·have q0:(kind == 1)=false:=by rw [hpk];exact beq_eq_false_iff_ne.2 k1
   rw [if_neg k1] at e
   rw [e]
   clear e hkk hbl k1 hpk
   have HV13:=Lib.hid hv13
   clear hv13
   go_enter Tryz.func28,Tryz.ntmps28
   go_wp2_with fail
   refine (KV.out _).mono ?_
   rintro e w1 ⟨rfl,rfl⟩
   clear KV
   go_wp2_with fail
   refine KP.out.mono ?_
   rintro e w1 ⟨pv,rfl,g1⟩
   obtain⟨F2,r2⟩:=g1.get 0 rfl
   obtain⟨pa,pc,rfl,-,-,-⟩:=RowA.shape r2
   obtain⟨b2,hb2⟩:∃ b2,b2=w1.heap.size:=⟨_,rfl⟩
   have HR:Hid (RinRel v ⟨kind,⟨⟨src,dst,proto,sport,dport⟩,fbk,fgen,fseen⟩,gen,ql.map (inBk v),bk,till,count⟩ (.slice pa ql.length pc) ql b2 (w.heap.size+1) (encRL zeroRec (.slice none 0 0)).toArray F0 w0 QQ (.int .i64 0) (w1.alloc (.cells (encRL ⟨kind,⟨⟨src,dst,proto,sport,dport⟩,fbk,fgen,fseen⟩,gen,ql.map (inBk v),bk,till,count⟩ (.slice pa ql.length pc)).toArray 39))):=Lib.hid ⟨0,Nat.zero_le _,rfl,by
    rw [mixL_zero,hb2]
    exact (g1.cells (encRL ⟨kind,⟨⟨src,dst,proto,sport,dport⟩,fbk,fgen,fseen⟩,gen,ql.map (inBk v),bk,till,count⟩ (.slice pa ql.length pc)).toArray 39).sel2 (R1:=[_,_]) [1,0] (by decide) rfl⟩
   clear KP g1 r2
   go_wp2_with fail
   rw [← hb2]
   clear hb2
   go_loopw [34] (RinRel v ⟨kind,⟨⟨src,dst,proto,sport,dport⟩,fbk,fgen,fseen⟩,gen,ql.map (inBk v),bk,till,count⟩ (.slice pa ql.length pc) ql b2 (w.heap.size+1) (encRL zeroRec (.slice none 0 0)).toArray F0 w0 QQ) (fun k _=>ql.length - (intOf k).toNat)
   case atStart=>exact HR.out
   case round=>
    obtain⟨k,hk,rfl,hio⟩:=hrel
    clear HR
    by_cases hlt:k < ql.length
    ·obtain⟨b,hb⟩:∃ b,ql[k]?=some b:=⟨ql[k],List.getElem?_eq_getElem hlt⟩
     obtain⟨F3,r3⟩:=hio.get 0 rfl
     have hlt':(k:Int) < (ql.length:Int):=Int.ofNat_lt.2 hlt
     have hw2:wrap64 ((k:Int)+1)=(k:Int)+1:=by have:=HBL.out;unfold wrap64;omega
     have y0:wr.cell? ⟨b2,10,none⟩=some (.slice pa ql.length pc):=cell_of (hio.block 1 rfl) rfl
     have hlen:(bkV (mixL v ql k)).length=ql.length * 3:=by rw [bkV_length,mixL_length]
     have hj:k * 3+2 < (bkV (mixL v ql k)).length:=by omega
     obtain⟨u0,hu0⟩:∃ u,(bkV (mixL v ql k))[k * 3+2]?=some u:=⟨_,List.getElem?_eq_getElem hj⟩
     obtain⟨g,rfl,c0⟩:=r3.at.2 (k * 3+2) _ hu0
     have hf:wr.frozen? ⟨g,k * 3+2,none⟩=false:=by
      have:=(r3.there (o:=k * 3+2) (m:=1) (by omega) 0 (by omega)).2
      simpa using this
     by_cases hv2:v < 2
     ·have HN:=Lib.hid (row_put hio 0 rfl (o:=k * 3+2) (us:=[.int .i64 1]) (by simp;omega))
      have HP:=Lib.hid (mixL_put hv2 hb)
      have HN2:Hid (RinRel v ⟨kind,⟨⟨src,dst,proto,sport,dport⟩,fbk,fgen,fseen⟩,gen,ql.map (inBk v),bk,till,count⟩ (.slice (some ⟨g,0,none⟩) ql.length pc) ql b2 (w.heap.size+1) (encRL zeroRec (.slice none 0 0)).toArray F0 w0 QQ (.int .i64 ((k:Int)+1)) (wr.setCell ⟨g,k * 3+2,none⟩ (.int .i64 1))):=Lib.hid (rin_next hb (by rw [← HP.out];exact HN.out))
      clear hio r3 hb hlen hj hk hlt HN HP hu0
      go_wp2_with fail
      go_roundw
      case rel=>(try rw [hw2]);exact HN2.out
      case measure=>(try rw [hw2]);exact meas_lt hlt'
     ·have q:decide (v < 2)=false:=decide_eq_false hv2
      have HN2:Hid (RinRel v ⟨kind,⟨⟨src,dst,proto,sport,dport⟩,fbk,fgen,fseen⟩,gen,ql.map (inBk v),bk,till,count⟩ (.slice (some ⟨g,0,none⟩) ql.length pc) ql b2 (w.heap.size+1) (encRL zeroRec (.slice none 0 0)).toArray F0 w0 QQ (.int .i64 ((k:Int)+1)) wr):=Lib.hid (rin_next hb (by rw [mixL_wide hv2] at hio ⊢;exact hio))
      clear hio r3 hb hlen hj hk hlt hv2 hu0
      go_wp2_with fail
      go_roundw
      case rel=>(try rw [hw2]);exact HN2.out
      case measure=>(try rw [hw2]);exact meas_lt hlt'
    ·have hge:(ql.length:Int)≤(k:Int):=Int.ofNat_le.2 (Nat.le_of_not_lt hlt)
     obtain rfl:k=ql.length:=by omega
     rw [mixL_all,bkR_map] at hio
     obtain⟨⟨q1,q2⟩,q3,q4⟩:=rec_end hio rfl
     have Q2:=Lib.hid q2
     have Q3:=Lib.hid (And.intro q3 q4)
     clear hio q2 q3 q4 hk hlt
     go_wp2_with (refine wpList_load_row rfl 39 (.tmp 5) rfl b2 rfl 39 _ (0,0) _ q1 Tryz.underlying39 rfl (by kernel_rfl) ?_;refine wpList_store_mid (op:=⟨none,Op.store 39 (.tmp 4) (.tmp 45),_,_,_,_⟩) (by rfl) 39 (.tmp 4) (.tmp 45) rfl (w.heap.size+1) 0 (encRL ⟨kind,⟨⟨src,dst,proto,sport,dport⟩,fbk,fgen,fseen⟩,gen,ql.map (inBk v),bk,till,count⟩ (.slice pa ql.length pc)).toArray (by rfl) (by rfl) Q2.out (by kernel_rfl) (encRL_all _ _ _ _) ?_)
     exact bodyPost_ret (results_cell_row Tryz.results28 _ _ (w.heap.size+1) 39 _ (0,0) _ rfl Q3.out.1 Tryz.underlying39 rfl (by kernel_rfl)) rfl ⟨_,rfl,HD.out _ _ Q3.out.2⟩
end
section
variable {F0:List Nat} {w0 w:World} {R:List Asrt} {bw:Nat} {l:List UInt8}
theorem o_wi64 (h:In F0 w0 w R) (i:Nat) (hA:R[i]?=some (WA bw l)) (hl:l.length≤1000000) (n:Int) :
  Calls Tryz.prog 122 #[.pointer (some ⟨bw,0,none⟩),.int .i64 n] w fun e w'=>e=.returned (.tuple #[])∧In F0 w0 w' (R.set i (WA bw (l++be (u64 n) 8))):=by
 have c:=Lib.hid (o_wput h i hA hl (u64 n) 8 (u64_lt n) (by omega))
 rw [← u64_eq] at c
 clear h hA hl
 go_enter Tryz.func122,Tryz.ntmps122
 go_wp2_with fail
 refine c.out.mono ?_
 rintro e w1 ⟨rfl,ho⟩
 have HO:=Lib.hid ho
 clear ho c
 go_wp2_with fail
 go_end0
 exact⟨rfl,HO.out⟩
end
section
variable {F0:List Nat} {w0 w:World} {R:List Asrt} {bw b0:Nat} {C0:Array Value} {l:List UInt8}
abbrev pW (bw:Nat):Value:=.pointer (some ⟨bw,0,none⟩)
def WPost (bw b0:Nat) (C0:Array Value) (l:List UInt8) (F0:List Nat) (w0:World) (R:List Asrt) (e:Ending) (w':World):Prop:=e=.returned (.tuple #[])∧In F0 w0 w' (Cells b0 C0 39::WA bw l::R)
theorem k_u8 (hl:l.length≤100000) (w':World) (more:List UInt8) (n:Int) (h:In F0 w0 w' (Cells b0 C0 39::WA bw (l++more)::R)) (hm:more.length≤1000):Calls Tryz.prog 123 #[pW bw,.int .i64 n] w' (WPost bw b0 C0 (l++(more++be (u64 n) 1)) F0 w0 R):=by
 have:=o_wu8 h 1 rfl (by rw [List.length_append];omega) n
 rw [← List.append_assoc];exact this
theorem k_u16 (hl:l.length≤100000) (w':World) (more:List UInt8) (n:Int) (h:In F0 w0 w' (Cells b0 C0 39::WA bw (l++more)::R)) (hm:more.length≤1000):Calls Tryz.prog 119 #[pW bw,.int .i64 n] w' (WPost bw b0 C0 (l++(more++be (u64 n) 2)) F0 w0 R):=by
 have:=o_wu16 h 1 rfl (by rw [List.length_append];omega) n
 rw [← List.append_assoc];exact this
theorem k_u32 (hl:l.length≤100000) (w':World) (more:List UInt8) (n:Int) (h0:0≤n) (h1:n < 4294967296) (h:In F0 w0 w' (Cells b0 C0 39::WA bw (l++more)::R)) (hm:more.length≤1000):Calls Tryz.prog 121 #[pW bw,.int .u32 n] w' (WPost bw b0 C0 (l++(more++be (u64 n) 4)) F0 w0 R):=by
 have:=o_wu32 h 1 rfl (by rw [List.length_append];omega) h0 h1
 rw [← List.append_assoc];exact this
theorem k_i64 (hl:l.length≤100000) (w':World) (more:List UInt8) (n:Int) (h:In F0 w0 w' (Cells b0 C0 39::WA bw (l++more)::R)) (hm:more.length≤1000):Calls Tryz.prog 122 #[pW bw,.int .i64 n] w' (WPost bw b0 C0 (l++(more++be (u64 n) 8)) F0 w0 R):=by
 have:=o_wi64 h 1 rfl (by rw [List.length_append];omega) n
 rw [← List.append_assoc];exact this
theorem u32_in {n:Int} (h0:0≤n) (h1:n≤1000000):IntKind.u32.wrap n=n:=by
 have e:IntKind.u32.wrap n=n % 4294967296:=rfl
 rw [e];omega
def WrPost (bw:Nat) (l:List UInt8) (F0:List Nat) (w0:World) (R:List Asrt) (e:Ending) (w':World):Prop:=e=.returned (.tuple #[])∧In F0 w0 w' (WA bw l::R)
theorem wr_done {l' l2:List UInt8} (e:l'=l2) (h:In F0 w0 w (Cells b0 C0 39::WA bw (l++l')::R)):WrPost bw (l++l2) F0 w0 R (.returned (.tuple #[])) w:=by subst e;exact⟨rfl,h.drop⟩
def WbRel (bw b0:Nat) (C0:Array Value) (l hd:List UInt8) (v:Int) (bks:List Bk) (F0:List Nat) (w0:World) (R:List Asrt) (i:Value) (wr:World):Prop:=
 ∃ k:Nat,k≤bks.length∧i=.int .i64 k∧In F0 w0 wr (Cells b0 C0 39::WA bw (l++(hd++bksB v (bks.take k)))::R)
theorem wb_step {hd more:List UInt8} {v:Int} {bks:List Bk} {k nb:Nat} {b:Bk} {C:Array Value} {ty:Nat} (hb:bks[k]?=some b) (hm:more=bkB v b) (h:In F0 w0 w (Cells b0 C0 39::WA bw (l++(hd++bksB v (bks.take k)++more))::Cells nb C ty::R)):WbRel bw b0 C0 l hd v bks F0 w0 R (.int .i64 ((k:Int)+1)) w:=by
 subst hm
 refine⟨k+1,(List.getElem?_eq_some_iff.1 hb).1,by rw [Int.natCast_add];rfl,?_⟩
 have e:bksB v (bks.take (k+1))=bksB v (bks.take k)++bkB v b:=by rw [List.take_add_one,hb];exact bksB_snoc v _ b
 rw [e,← List.append_assoc hd]
 exact h.sel2 (R1:=[_,_,_]) [0,1] (by decide) rfl
theorem o_rcwrite {r:Rec} {A:Option Addr} {c:Nat} (v:Int) (hs:BksAt F0 w0 R A r.bks) (wr:WfR r) (hm:mayRec r=true) (hl:l.length≤100000) (h:In F0 w0 w (WA bw l::R)):Calls Tryz.prog 70 #[pW bw,agR r A c,.int .i64 v] w (WrPost bw (l++recBody r v) F0 w0 R):=by
 have hmf:∀ (fn:Fn) (first cap:Array Value) (w:World),(Instr.makeFunc fn first cap).run Tryz.prog w=.ok (.func fn first cap) w:=fun _ _ _ _=>rfl
 have HL:=Lib.hid hl
 rw [mayRec_iff] at hm
 have h0:In F0 w0 w (WA bw (l++[])::R):=by rw [List.append_nil];exact h
 obtain⟨kind,⟨⟨src,dst,proto,sport,dport⟩,fbk,fgen,fseen⟩,gen,bks,bk,till,count⟩:=r
 obtain⟨wt,wa⟩:=wr
 simp only at hm wt wa hs
 have H1:=Lib.hid (h0.cells (encRL ⟨kind,⟨⟨src,dst,proto,sport,dport⟩,fbk,fgen,fseen⟩,gen,bks,bk,till,count⟩ (.slice A bks.length c)).toArray 39)
 have HTW:=Lib.hid (fun (k:Int)=>o_twrite (h0.cells (encRL ⟨k,⟨⟨src,dst,proto,sport,dport⟩,fbk,fgen,fseen⟩,gen,bks,bk,till,count⟩ (.slice A bks.length c)).toArray 39) 1 rfl (by rw [List.append_nil];omega) wt)
 clear h h0 hl
 rcases hm with ⟨h1,h2⟩|⟨h1,h2⟩|⟨h1,h2,h3,h4⟩|⟨h1,h2,h3⟩|⟨h1,h2⟩|⟨h1,h2⟩
 ·-- a flow
  subst h1
  have hg0:=h2.g0
  have hg1:=h2.g1
  simp only at hg0 hg1
  have hw:=u32_in hg0 hg1
  have HY:=Lib.hid (fun w' l' (h':In F0 w0 w' (Cells w.heap.size (encRL ⟨1,⟨⟨src,dst,proto,sport,dport⟩,fbk,fgen,fseen⟩,gen,bks,bk,till,count⟩ (.slice A bks.length c)).toArray 39::WA bw l'::R))=>(show w'.cell? ⟨w.heap.size,6,none⟩=some (.int .i64 fbk)∧w'.cell? ⟨w.heap.size,7,none⟩=some (.int .i64 fgen)∧w'.cell? ⟨w.heap.size,8,none⟩=some (.int .i64 fseen) from ⟨cell_of (h'.block 0 rfl) rfl,cell_of (h'.block 0 rfl) rfl,cell_of (h'.block 0 rfl) rfl⟩))
  have K1:=Lib.hid (HTW.out 1)
  have K3:Hid (∀ w' more,In F0 w0 w' (Cells w.heap.size (encRL ⟨1,⟨⟨src,dst,proto,sport,dport⟩,fbk,fgen,fseen⟩,gen,bks,bk,till,count⟩ (.slice A bks.length c)).toArray 39::WA bw (l++more)::R)→more.length≤1000→Calls Tryz.prog 121 #[pW bw,.int .u32 fgen] w' (WPost bw w.heap.size (encRL ⟨1,⟨⟨src,dst,proto,sport,dport⟩,fbk,fgen,fseen⟩,gen,bks,bk,till,count⟩ (.slice A bks.length c)).toArray (l++(more++be (u64 fgen) 4)) F0 w0 R)):=Lib.hid fun w' more h' hm'=>k_u32 HL.out w' more fgen hg0 (by omega) h' hm'
  clear H1 HTW hg0 hg1 wa wt hs
  by_cases v2:2≤v
  ·by_cases v3:3≤v
   ·have HE:Hid (keyL ⟨src,dst,proto,sport,dport⟩++be (u64 fbk) 2++be (u64 fgen) 4++be (u64 fseen) 8=recBody ⟨1,⟨⟨src,dst,proto,sport,dport⟩,fbk,fgen,fseen⟩,gen,bks,bk,till,count⟩ v):=Lib.hid (by unfold recBody;rw [if_pos rfl,if_pos v2,if_pos v3])
    go_enter Tryz.func70,Tryz.ntmps70
    go_wp2_with fail
    refine K1.out.mono ?_
    rintro e w1 ⟨rfl,g1⟩
    rw [List.append_nil] at g1
    obtain⟨y6,y7,y8⟩:=HY.out w1 _ g1
    have G1:=Lib.hid g1
    clear g1 K1
    go_wp2_with fail
    refine (k_u16 HL.out w1 (keyL ⟨src,dst,proto,sport,dport⟩) fbk G1.out (by rw [keyL_length];decide)).mono ?_
    rintro e w2 ⟨rfl,g2⟩
    clear y6 y7 y8 G1
    obtain⟨y6,y7,y8⟩:=HY.out w2 _ g2
    have G2:=Lib.hid g2
    clear g2
    go_wp2_with fail
    refine (K3.out w2 _ G2.out (by simp [keyL_length,be_length])).mono ?_
    rintro e w3 ⟨rfl,g3⟩
    clear y6 y7 y8 G2
    obtain⟨y6,y7,y8⟩:=HY.out w3 _ g3
    have G3:=Lib.hid g3
    clear g3 K3
    go_wp2_with fail
    refine (k_i64 HL.out w3 _ fseen G3.out (by simp [keyL_length,be_length])).mono ?_
    rintro e w4 ⟨rfl,g4⟩
    have G4:=Lib.hid (wr_done HE.out g4)
    clear y6 y7 y8 G3 g4 HY
    go_wp2_with fail
    go_end0
    exact G4.out
   ·have q3:decide (3≤v)=false:=decide_eq_false v3
    have HE:Hid (keyL ⟨src,dst,proto,sport,dport⟩++be (u64 fbk) 2++be (u64 fgen) 4=recBody ⟨1,⟨⟨src,dst,proto,sport,dport⟩,fbk,fgen,fseen⟩,gen,bks,bk,till,count⟩ v):=Lib.hid (by unfold recBody;rw [if_pos rfl,if_pos v2,if_neg v3,List.append_nil])
    clear v3
    go_enter Tryz.func70,Tryz.ntmps70
    go_wp2_with fail
    refine K1.out.mono ?_
    rintro e w1 ⟨rfl,g1⟩
    rw [List.append_nil] at g1
    obtain⟨y6,y7,y8⟩:=HY.out w1 _ g1
    have G1:=Lib.hid g1
    clear g1 K1
    go_wp2_with fail
    refine (k_u16 HL.out w1 (keyL ⟨src,dst,proto,sport,dport⟩) fbk G1.out (by rw [keyL_length];decide)).mono ?_
    rintro e w2 ⟨rfl,g2⟩
    clear y6 y7 y8 G1
    obtain⟨y6,y7,y8⟩:=HY.out w2 _ g2
    have G2:=Lib.hid g2
    clear g2
    go_wp2_with fail
    refine (K3.out w2 _ G2.out (by simp [keyL_length,be_length])).mono ?_
    rintro e w3 ⟨rfl,g3⟩
    have G3:=Lib.hid (wr_done HE.out g3)
    clear y6 y7 y8 G2 g3 HY K3
    go_wp2_with fail
    go_end0
    exact G3.out
  ·have q2:decide (2≤v)=false:=decide_eq_false v2
   have q3:decide (3≤v)=false:=decide_eq_false (by omega)
   have HE:Hid (keyL ⟨src,dst,proto,sport,dport⟩++be (u64 fbk) 2=recBody ⟨1,⟨⟨src,dst,proto,sport,dport⟩,fbk,fgen,fseen⟩,gen,bks,bk,till,count⟩ v):=Lib.hid (by unfold recBody;rw [if_pos rfl,if_neg v2,if_neg (by omega),List.append_nil,List.append_nil])
   clear v2
   go_enter Tryz.func70,Tryz.ntmps70
   go_wp2_with fail
   refine K1.out.mono ?_
   rintro e w1 ⟨rfl,g1⟩
   rw [List.append_nil] at g1
   obtain⟨y6,y7,y8⟩:=HY.out w1 _ g1
   have G1:=Lib.hid g1
   clear g1 K1
   go_wp2_with fail
   refine (k_u16 HL.out w1 (keyL ⟨src,dst,proto,sport,dport⟩) fbk G1.out (by rw [keyL_length];decide)).mono ?_
   rintro e w2 ⟨rfl,g2⟩
   have G2:=Lib.hid (wr_done HE.out g2)
   clear y6 y7 y8 G1 g2 HY K3
   go_wp2_with fail
   go_end0
   exact G2.out
 ·subst h1
  have K1:=Lib.hid (HTW.out 2)
  have HE:Hid (keyL ⟨src,dst,proto,sport,dport⟩=recBody ⟨2,⟨⟨src,dst,proto,sport,dport⟩,fbk,fgen,fseen⟩,gen,bks,bk,till,count⟩ v):=Lib.hid rfl
  clear H1 HTW wa wt hs h2
  go_enter Tryz.func70,Tryz.ntmps70
  go_wp2_with fail
  refine K1.out.mono ?_
  rintro e w1 ⟨rfl,g1⟩
  rw [List.append_nil] at g1
  have G1:=Lib.hid (wr_done HE.out g1)
  clear g1 K1
  go_wp2_with fail
  go_end0
  exact G1.out
 ·subst h1
  have hw:=u32_in h2.1 h2.2
  have HE:Hid (be (u64 gen) 4++be (u64 bks.length) 1++bksB v bks=recBody ⟨3,⟨⟨src,dst,proto,sport,dport⟩,fbk,fgen,fseen⟩,gen,bks,bk,till,count⟩ v):=Lib.hid rfl
  have HY:=Lib.hid (fun w' l' (h':In F0 w0 w' (Cells w.heap.size (encRL ⟨3,⟨⟨src,dst,proto,sport,dport⟩,fbk,fgen,fseen⟩,gen,bks,bk,till,count⟩ (.slice A bks.length c)).toArray 39::WA bw l'::R))=>(show w'.cell? ⟨w.heap.size,9,none⟩=some (.int .i64 gen)∧w'.cell? ⟨w.heap.size,10,none⟩=some (.slice A bks.length c) from ⟨cell_of (h'.block 0 rfl) rfl,cell_of (h'.block 0 rfl) rfl⟩))
  have K1:=Lib.hid (k_u32 HL.out _ [] gen h2.1 (by omega) H1.out (by decide))
  rw [List.nil_append] at K1
  have HS:=Lib.hid hs
  have HBL:Hid (bks.length≤16):=Lib.hid h3
  have HWA:=Lib.hid wa
  obtain⟨y9,y10⟩:=HY.out _ _ H1.out
  clear H1 HTW wa wt hs h2 h3 h4
  go_enter Tryz.func70,Tryz.ntmps70
  go_wp2_with fail
  refine K1.out.mono ?_
  rintro e w1 ⟨rfl,g1⟩
  clear y9 y10
  obtain⟨y9,y10⟩:=HY.out w1 _ g1
  have G1:=Lib.hid g1
  clear g1 K1
  go_wp2_with fail
  refine (k_u8 HL.out w1 _ _ G1.out (by rw [be_length];decide)).mono ?_
  rintro e w2 ⟨rfl,g2⟩
  clear y9 y10
  obtain⟨y9,y10⟩:=HY.out w2 _ g2
  have HR:Hid (WbRel bw w.heap.size (encRL ⟨3,⟨⟨src,dst,proto,sport,dport⟩,fbk,fgen,fseen⟩,gen,bks,bk,till,count⟩ (.slice A bks.length c)).toArray l (be (u64 gen) 4++be (u64 bks.length) 1) v bks F0 w0 R (.int .i64 0) w2):=Lib.hid ⟨0,Nat.zero_le _,rfl,by
   have e:be (u64 gen) 4++be (u64 bks.length) 1++bksB v (bks.take 0)=be (u64 gen) 4++be (u64 bks.length) 1:=by simp [bksB]
   rw [e];exact g2⟩
  clear g2 G1
  go_wp2_with fail
  go_loopw [62] (WbRel bw w.heap.size (encRL ⟨3,⟨⟨src,dst,proto,sport,dport⟩,fbk,fgen,fseen⟩,gen,bks,bk,till,count⟩ (.slice A bks.length c)).toArray l (be (Go.Proofs.YtpmmiljakbojaaaGreat.u64 gen) 4++be (Go.Proofs.YtpmmiljakbojaaaGreat.u64 bks.length) 1) v bks F0 w0 R) (fun k _=>bks.length - (intOf k).toNat)
  case atStart=>exact HR.out
  case round=>
   obtain⟨k,hk,rfl,hio⟩:=hrel
   clear HR y9 y10
   by_cases hlt:k < bks.length
   ·obtain⟨b,hb⟩:∃ b,bks[k]?=some b:=⟨bks[k],List.getElem?_eq_getElem hlt⟩
    obtain⟨g,o,rfl,c0,c1,c2⟩:=HS.out.cell hio.drop.drop hb
    obtain⟨wb0,wb1⟩:=HWA.out b (List.mem_of_getElem? hb)
    have hlt':(k:Int) < (bks.length:Int):=Int.ofNat_lt.2 hlt
    have hw2:wrap64 ((k:Int)+1)=(k:Int)+1:=by have:=HBL.out;unfold wrap64;omega
    obtain⟨id,addr,wt⟩:=b
    simp only at c0 c1 c2 wb0 wb1
    obtain⟨M,hM⟩:∃ M,M=be (Go.Proofs.YtpmmiljakbojaaaGreat.u64 gen) 4++be (Go.Proofs.YtpmmiljakbojaaaGreat.u64 bks.length) 1++bksB v (bks.take k):=⟨_,rfl⟩
    have hML:M.length≤200:=by
     have:=bksB_length v (bks.take k)
     have:=HBL.out
     rw [hM];simp only [List.length_append,be_length,List.length_take] at *;omega
    have h3:=(hio.cells #[.int .i64 id,.int .u32 addr,.int .i64 wt] 119).sel2 (R1:=[_,_,_]) [1,2,0] (by decide) rfl
    rw [← hM] at h3
    have K2:=Lib.hid (k_u16 HL.out _ M id h3 (by omega))
    have HYB:=Lib.hid (fun w' l' (h':In F0 w0 w' (Cells w.heap.size (encRL ⟨3,⟨⟨src,dst,proto,sport,dport⟩,fbk,fgen,fseen⟩,gen,bks,bk,till,count⟩ (.slice (some ⟨g,o,none⟩) bks.length c)).toArray 39::WA bw l'::Cells wr.heap.size #[.int .i64 id,.int .u32 addr,.int .i64 wt] 119::R))=>(show w'.cell? ⟨wr.heap.size,1,none⟩=some (.int .u32 addr)∧w'.cell? ⟨wr.heap.size,2,none⟩=some (.int .i64 wt) from ⟨cell_of (h'.block 2 rfl) rfl,cell_of (h'.block 2 rfl) rfl⟩))
    have K3:=Lib.hid (fun w' (h':In F0 w0 w' (Cells w.heap.size (encRL ⟨3,⟨⟨src,dst,proto,sport,dport⟩,fbk,fgen,fseen⟩,gen,bks,bk,till,count⟩ (.slice (some ⟨g,o,none⟩) bks.length c)).toArray 39::WA bw (l++(M++be (Go.Proofs.YtpmmiljakbojaaaGreat.u64 id) 2))::Cells wr.heap.size #[.int .i64 id,.int .u32 addr,.int .i64 wt] 119::R))=>k_u32 HL.out w' _ addr wb0 wb1 h' (by rw [List.length_append,be_length];omega))
    have K4:=Lib.hid (fun w' (h':In F0 w0 w' (Cells w.heap.size (encRL ⟨3,⟨⟨src,dst,proto,sport,dport⟩,fbk,fgen,fseen⟩,gen,bks,bk,till,count⟩ (.slice (some ⟨g,o,none⟩) bks.length c)).toArray 39::WA bw (l++(M++be (Go.Proofs.YtpmmiljakbojaaaGreat.u64 id) 2++be (Go.Proofs.YtpmmiljakbojaaaGreat.u64 addr) 4))::Cells wr.heap.size #[.int .i64 id,.int .u32 addr,.int .i64 wt] 119::R))=>k_u8 HL.out w' _ wt h' (by rw [List.length_append,List.length_append,be_length,be_length];omega))
    have HN:=Lib.hid (fun more w' hm' h'=>wb_step (F0:=F0) (w0:=w0) (w:=w') (R:=R) (bw:=bw) (b0:=w.heap.size) (C0:=(encRL ⟨3,⟨⟨src,dst,proto,sport,dport⟩,fbk,fgen,fseen⟩,gen,bks,bk,till,count⟩ (.slice (some ⟨g,o,none⟩) bks.length c)).toArray) (l:=l) (hd:=be (Go.Proofs.YtpmmiljakbojaaaGreat.u64 gen) 4++be (Go.Proofs.YtpmmiljakbojaaaGreat.u64 bks.length) 1) (more:=more) (v:=v) (bks:=bks) (nb:=wr.heap.size) (C:=#[.int .i64 id,.int .u32 addr,.int .i64 wt]) (ty:=119) hb hm' h')
    rw [← hM] at HN
    clear hio h3 hk hlt hb hM hML wb0 wb1
    by_cases v2:2≤v
    ·have HB:Hid (be (Go.Proofs.YtpmmiljakbojaaaGreat.u64 id) 2++be (Go.Proofs.YtpmmiljakbojaaaGreat.u64 addr) 4++be (Go.Proofs.YtpmmiljakbojaaaGreat.u64 wt) 1=bkB v ⟨id,addr,wt⟩):=Lib.hid (by unfold bkB;rw [if_pos v2])
     go_wp2_with fail
     refine K2.out.mono ?_
     rintro e w3 ⟨rfl,g3⟩
     obtain⟨z1,z2⟩:=HYB.out w3 _ g3
     have K5:=Lib.hid (K3.out w3 g3)
     clear g3 K2 K3
     go_wp2_with fail
     refine K5.out.mono ?_
     rintro e w4 ⟨rfl,g4⟩
     clear z1 z2
     obtain⟨z1,z2⟩:=HYB.out w4 _ g4
     have K6:=Lib.hid (K4.out w4 g4)
     clear g4 K4 K5
     go_wp2_with fail
     refine K6.out.mono ?_
     rintro e w5 ⟨rfl,g5⟩
     have HN2:=Lib.hid (HN.out _ w5 HB.out (by simpa only [List.append_assoc] using g5))
     clear g5 K6 HN z1 z2
     go_wp2_with fail
     go_roundw
     case rel=>(try rw [hw2]);exact HN2.out
     case measure=>(try rw [hw2]);exact meas_lt hlt'
    ·have q2:decide (2≤v)=false:=decide_eq_false v2
     have HB:Hid (be (Go.Proofs.YtpmmiljakbojaaaGreat.u64 id) 2++be (Go.Proofs.YtpmmiljakbojaaaGreat.u64 addr) 4=bkB v ⟨id,addr,wt⟩):=Lib.hid (by unfold bkB;rw [if_neg v2,List.append_nil])
     clear v2
     go_wp2_with fail
     refine K2.out.mono ?_
     rintro e w3 ⟨rfl,g3⟩
     obtain⟨z1,z2⟩:=HYB.out w3 _ g3
     have K5:=Lib.hid (K3.out w3 g3)
     clear g3 K2 K3
     go_wp2_with fail
     refine K5.out.mono ?_
     rintro e w4 ⟨rfl,g4⟩
     have HN2:=Lib.hid (HN.out _ w4 HB.out (by simpa only [List.append_assoc] using g4))
     clear g4 K4 K5 HN z1 z2
     go_wp2_with fail
     go_roundw
     case rel=>(try rw [hw2]);exact HN2.out
     case measure=>(try rw [hw2]);exact meas_lt hlt'
   ·have hge:(bks.length:Int)≤(k:Int):=Int.ofNat_le.2 (Nat.le_of_not_lt hlt)
    have hkl:bks.take k=bks:=List.take_of_length_le (Nat.le_of_not_lt hlt)
    rw [hkl] at hio
    have G:=Lib.hid (wr_done HE.out hio)
    clear hio hkl hlt hk
    go_wp2_with fail
    go_end0
    exact G.out
 ·subst h1
  have HE:Hid (be (u64 bk) 2++be (u64 till) 8=recBody ⟨4,⟨⟨src,dst,proto,sport,dport⟩,fbk,fgen,fseen⟩,gen,bks,bk,till,count⟩ v):=Lib.hid rfl
  have HY:=Lib.hid (fun w' l' (h':In F0 w0 w' (Cells w.heap.size (encRL ⟨4,⟨⟨src,dst,proto,sport,dport⟩,fbk,fgen,fseen⟩,gen,bks,bk,till,count⟩ (.slice A bks.length c)).toArray 39::WA bw l'::R))=>(show w'.cell? ⟨w.heap.size,11,none⟩=some (.int .i64 bk)∧w'.cell? ⟨w.heap.size,12,none⟩=some (.int .i64 till) from ⟨cell_of (h'.block 0 rfl) rfl,cell_of (h'.block 0 rfl) rfl⟩))
  have K1:=Lib.hid (k_u16 HL.out _ [] bk H1.out (by decide))
  rw [List.nil_append] at K1
  clear H1 HTW wa wt hs h2 h3
  go_enter Tryz.func70,Tryz.ntmps70
  go_wp2_with fail
  refine K1.out.mono ?_
  rintro e w1 ⟨rfl,g1⟩
  obtain⟨y9,y10⟩:=HY.out w1 _ g1
  have G1:=Lib.hid g1
  clear g1 K1
  go_wp2_with fail
  refine (k_i64 HL.out w1 _ till G1.out (by rw [be_length];decide)).mono ?_
  rintro e w2 ⟨rfl,g2⟩
  have G:=Lib.hid (wr_done HE.out g2)
  clear g2 G1 y9 y10 HY
  go_wp2_with fail
  go_end0
  exact G.out
 ·subst h1
  have HE:Hid (be (u64 bk) 2=recBody ⟨5,⟨⟨src,dst,proto,sport,dport⟩,fbk,fgen,fseen⟩,gen,bks,bk,till,count⟩ v):=Lib.hid rfl
  have K1:=Lib.hid (k_u16 HL.out _ [] bk H1.out (by decide))
  rw [List.nil_append] at K1
  clear H1 HTW wa wt hs h2
  go_enter Tryz.func70,Tryz.ntmps70
  go_wp2_with fail
  refine K1.out.mono ?_
  rintro e w1 ⟨rfl,g1⟩
  have G:=Lib.hid (wr_done HE.out g1)
  clear g1 K1
  go_wp2_with fail
  go_end0
  exact G.out
 ·subst h1
  have hw:=u32_in h2.1 h2.2
  have HE:Hid (be (u64 count) 4=recBody ⟨6,⟨⟨src,dst,proto,sport,dport⟩,fbk,fgen,fseen⟩,gen,bks,bk,till,count⟩ v):=Lib.hid rfl
  have K1:=Lib.hid (k_u32 HL.out _ [] count h2.1 (by omega) H1.out (by decide))
  rw [List.nil_append] at K1
  clear H1 HTW wa wt hs h2
  go_enter Tryz.func70,Tryz.ntmps70
  go_wp2_with fail
  refine K1.out.mono ?_
  rintro e w1 ⟨rfl,g1⟩
  have G:=Lib.hid (wr_done HE.out g1)
  clear g1 K1
  go_wp2_with fail
  go_end0
  exact G.out
end
end Go.Proofs.YtpmmiljakbojaaaGreat
