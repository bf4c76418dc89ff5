/- Rows.StoreRefusesSaid -/
import Derived.Test.YtpmmiljakbojaaaGreatRF27
import Derived.Test.YtpmmiljakbojaaaGreatRF7
namespace Go.Proofs.YtpmmiljakbojaaaGreat
open Go.RowKit
set_option linter.unusedVariables false
set_option maxHeartbeats 64000000
set_option maxRecDepth 100000
structure EachOk {σ:Type} (μ:σ→Nat) (ev:Value) (Acc:σ→Asrt) (ef:σ→FrD→σ×Int):Prop where
 framed:∀ s,Framed (Acc s)
 grow:∀ s f,μ (ef s f).1≤μ s+1
 call:(ev=Value.nilFunc∧∀ s f,ef s f=(s,0))∨∃ fid bound caps,ev=.func (.func fid) bound caps∧(∀ args w',(callFunc fid args).run Tryz.prog w'=.ok (.enter fid args) w') ∧
  ∀ F0 w0 w' s f v RR,μ s≤100000000→f.body.length≤100000000→In F0 w0 w' (bodyA v f::Acc s::RR)→Calls Tryz.prog fid (bound.push (.agg #[.int .i64 f.kind,.int .i64 f.ver,v])++caps) w' fun e w''=>e=.returned (.int .i64 (ef s f).2)∧In F0 w0 w'' (Acc (ef s f).1::RR)
theorem flatFr_at:∀ {fs:List FrD} {vs:List Value} {k:Nat} {f:FrD} {v:Value},vs.length=fs.length→fs[k]?=some f→vs[k]?=some v→(flatFr fs vs)[k * 3]?=some (.int .i64 f.kind)∧(flatFr fs vs)[k * 3+1]?=some (.int .i64 f.ver)∧(flatFr fs vs)[k * 3+2]?=some v
 | [],vs,k,f,v,_,h,_=>by simp at h
 | g::fs,[],k,f,v,h,_,_=>by simp at h
 | g::fs,u::vs,0,f,v,h,h1,h2=>by
  simp only [List.getElem?_cons_zero,Option.some.injEq] at h1 h2
  subst h1 h2
  exact⟨rfl,rfl,rfl⟩
 | g::fs,u::vs,k+1,f,v,h,h1,h2=>by
  simp only [List.getElem?_cons_succ] at h1 h2
  simp only [List.length_cons,Nat.add_right_cancel_iff] at h
  have ih:=flatFr_at (fs:=fs) (vs:=vs) h h1 h2
  have e:flatFr (g::fs) (u::vs)=encFr g u++flatFr fs vs:=rfl
  have el:(encFr g u).length=3:=rfl
  rw [e]
  refine⟨?_,?_,?_⟩
  ·rw [List.getElem?_append_right (by rw [el];omega),el,show (k+1) * 3 - 3=k * 3 by omega];exact ih.1
  ·rw [List.getElem?_append_right (by rw [el];omega),el,show (k+1) * 3+1 - 3=k * 3+1 by omega];exact ih.2.1
  ·rw [List.getElem?_append_right (by rw [el];omega),el,show (k+1) * 3+2 - 3=k * 3+2 by omega];exact ih.2.2
theorem bodiesR_drop {vs:List Value} {fs:List FrD} {k:Nat} {f:FrD} {v:Value} (h1:fs[k]?=some f) (h2:vs[k]?=some v):bodiesR (vs.drop k) (fs.drop k)=bodyA v f::bodiesR (vs.drop (k+1)) (fs.drop (k+1)):=by
 obtain⟨a1,rfl⟩:=List.getElem?_eq_some_iff.1 h1
 obtain⟨a2,rfl⟩:=List.getElem?_eq_some_iff.1 h2
 rw [List.drop_eq_getElem_cons a1,List.drop_eq_getElem_cons a2];rfl
theorem star_join {w:World}:∀ {A1 R:List Asrt} {F1 F2:List Nat},Star A1 w F1→Star R w F2→Apart F1 F2→Star (A1++R) w (F1++F2)
 | [],R,F1,F2,h1,h2,_=>by
  obtain rfl:F1=[]:=h1
  exact h2
 | A::A1,R,F1,F2,⟨G1,G2,g1,g2,g3,e⟩,h2,ha=>by
  subst e
  refine⟨G1,G2++F2,g1,star_join g2 h2 (fun b hb=>ha b (List.mem_append_right _ hb)),fun b hb hb2=>?_,by rw [List.append_assoc]⟩
  rcases List.mem_append.1 hb2 with hb2 | hb2
  ·exact g3 b hb hb2
  ·exact ha b (List.mem_append_left _ hb) hb2
theorem In.unjoin {F0:List Nat} {w0 w:World} {A1 R:List Asrt} (hf:∀ A∈A1,Framed A) (h:In F0 w0 w (Star A1::R)):In F0 w0 w (A1++R):=by
 obtain⟨F,⟨F1,F2,h1,h2,h3,rfl⟩,hF⟩:=h.star
 refine⟨fun A hA=>?_,⟨F1++F2,star_join h1 h2 h3,hF⟩,h.mod⟩
 rcases List.mem_append.1 hA with hA | hA
 ·exact hf A hA
 ·exact h.framed A (List.mem_cons_of_mem _ hA)
theorem In.mid {F0:List Nat} {w0 w:World} {A:Asrt} (X:List Asrt) {R:List Asrt} (h:In F0 w0 w (A::(X++R))):In F0 w0 w (A::R):=(h.perm List.perm_middle.symm).right
theorem In.frsOpen {F0:List Nat} {w0 w:World} {R:List Asrt} {v:Value} {fs:List FrD} (h:In F0 w0 w (FrsA v fs::R)):∃ vs:List Value,vs.length=fs.length∧In F0 w0 w (RowA 74 3 v fs.length (flatFr fs vs)::(bodiesR vs fs++R)):=by
 obtain⟨F,⟨F1,F2,⟨vs,hl,h1⟩,h2,h3,rfl⟩,hF⟩:=h.star
 refine⟨vs,hl,In.unjoin (A1:=FrsR v vs fs) FrsR.framed ⟨fun A hA=>?_,⟨F1++F2,⟨F1,F2,h1,h2,h3,rfl⟩,hF⟩,h.mod⟩⟩
 rcases List.mem_cons.1 hA with rfl | hA
 ·exact Framed.star FrsR.framed
 ·exact h.framed A (List.mem_cons_of_mem _ hA)
theorem frScanN_len:∀ (n:Nat) (b:List UInt8),(frScanN n b).1.length≤n
 | 0,_=>Nat.le_refl _
 | n+1,b=>by
  unfold frScanN
  split
  ·simp
  ·split
   ·have:=frScanN_len n (b.drop (frTake b).2.1)
    simp only [List.length_cons];omega
   ·simp
theorem frScanN_ok:∀ (n:Nat) (b:List UInt8),∀ f∈(frScanN n b).1,FrOk f
 | 0,b,f,h=>by simp [frScanN] at h
 | n+1,b,f,h=>by
  unfold frScanN at h
  split at h
  ·simp at h
  ·split at h
   ·rename_i h0
    rcases List.mem_cons.1 h with rfl | h
    ·exact (frTake_ok h0).2.2.2
    ·exact frScanN_ok n _ f h
   ·simp at h
theorem eqF_nil (w:World):(binOp BinOp.eql 92 Value.nilFunc Value.nilFunc).run Tryz.prog w=.ok (.bool true) w:=by kernel_rfl
theorem eqF_func (fid:FuncId) (bound caps:Array Value) (w:World):(binOp BinOp.eql 92 (.func (.func fid) bound caps) Value.nilFunc).run Tryz.prog w=.ok (.bool false) w:=by rfl
section
variable {F0:List Nat} {w0 w:World} {R:List Asrt} {bd:Nat} {d:DiskD} {σ:Type} {μ:σ→Nat} {Acc:σ→Asrt} {ef:σ→FrD→σ×Int} {ev:Value}
theorem tellAll_mu (hg:∀ s f,μ (ef s f).1≤μ s+1) (ver:Nat):∀ (fs:List FrD) (s:σ),μ (tellAll ef ver fs s).1≤μ s+fs.length
 | [],s=>by simp [tellAll]
 | f::r,s=>by
  unfold tellAll
  have h1:=hg s f
  have h2:=tellAll_mu hg ver r (ef s f).1
  simp only [List.length_cons]
  split
  ·show μ s≤_;omega
  ·split
   ·omega
   ·omega
def ScanSegPost (Acc:σ→Asrt) (r:σ×Nat×Int) (F0:List Nat) (w0:World) (R:List Asrt) (e:Ending) (w':World):Prop:=
 e=.returned (.tuple #[.int .i64 r.2.1,.int .i64 r.2.2])∧In F0 w0 w' (Acc r.1::R)
def TellRel (μ:σ→Nat) (ef:σ→FrD→σ×Int) (Acc:σ→Asrt) (ver:Nat) (fs:List FrD) (vs:List Value) (s:σ) (v:Value) (mb:Nat) (M:Array Value) (F0:List Nat) (w0:World) (R:List Asrt) (i:Value) (wr:World):Prop:=
 ∃ (k:Nat) (s':σ),i=.int .i64 k∧k≤fs.length∧μ s'≤μ s+k∧tellAll ef ver fs s=tellAll ef ver (fs.drop k) s'∧In F0 w0 wr (RowA 74 3 v fs.length (flatFr fs vs)::Cells mb M 104::Acc s'::(bodiesR (vs.drop k) (fs.drop k)++R))
theorem o_scan (hE:EachOk μ ev Acc ef) (s:σ) (hμ:μ s≤90000000) (h:In F0 w0 w (Acc s::R)) (j:Nat) (hA:R[j]?=some (DkA bd d)) (m:ManD) {A:Option Addr} {c:Nat} (hs:Segs F0 w0 R A m.segs) (i:Nat) (hi:i < m.segs.length) (hn:m.segs.length≤1000) (hsg:∀ x∈m.segs,x < 4611686018427387904) :
  Calls Tryz.prog 83 #[dptr bd,manAgg m A c,.int .i64 i,ev] w (ScanSegPost Acc (scanSeg ef d m i s) F0 w0 R):=by
 have h1:=h.cells #[.int .i64 m.ver,.int .i64 m.next,.slice A m.segs.length c] 104
 obtain⟨x,hx⟩:∃ x,m.segs[i]?=some x:=⟨m.segs[i],List.getElem?_eq_getElem hi⟩
 have hgd:m.segs.getD i 0=x:=by rw [List.getD_eq_getElem?_getD,hx];rfl
 obtain⟨ad,rfl,hc⟩:=(hs _ (h.alloc (.cells #[.int .i64 m.ver,.int .i64 m.next,.slice A m.segs.length c] 104)).drop).at' (by omega)
 have cx:=hc i (.int .i64 x) (by simp [segV,hx])
 have C1:=Lib.hid (o_name h1 x (hsg x (List.mem_of_getElem? hx)))
 have C2:=Lib.hid (fun w' (h':In F0 w0 w' (Cells w.heap.size #[.int .i64 m.ver,.int .i64 m.next,.slice (some ad) m.segs.length c] 104::Acc s::R))=>o_dread h' (j+2) hA (segName x) (segName_size _))
 have hdk:DiskOk d:=by
  obtain⟨F,hF⟩:=h.get (j+1) hA
  exact hF.1
 have HB:Hid (((dRead d (segName x)).getD []).length≤1048576):=Lib.hid (bytesD_le hdk (segName x))
 have HS:Hid (scanSeg ef d m i s=match dRead d (segName x) with
  | none=>(s,0,6)
  | some b=>
   if (frScan b).2.2≠0∧i+1 < m.segs.length then (s,0,3)
   else if (tellAll ef m.ver (frScan b).1 s).2≠0 then ((tellAll ef m.ver (frScan b).1 s).1,0,(tellAll ef m.ver (frScan b).1 s).2)
   else ((tellAll ef m.ver (frScan b).1 s).1,(frScan b).2.1,0)):=Lib.hid (by unfold scanSeg;rw [hgd];cases dRead d (segName x) <;> rfl)
 have hilt:(i:Int) < (m.segs.length:Int):=by omega
 unfold manAgg
 clear h h1 hs hc hA hdk hsg hgd hx
 cases hd:dRead d (segName x) with
 | none=>
  have HF:Hid (∀ w',In F0 w0 w' (Acc s::R)→ScanSegPost Acc (scanSeg ef d m i s) F0 w0 R (.returned (.tuple #[.int .i64 0,.int .i64 6])) w'):=Lib.hid fun w' h'=>by
   rw [HS.out,hd];exact⟨rfl,h'⟩
  have HD:=Lib.hid hd
  clear hd HS HB
  go_enter Tryz.func83,Tryz.ntmps83
  go_wp2_with fail
  refine C1.out.mono ?_
  rintro e w1 ⟨rfl,g1⟩
  have K2:=Lib.hid (C2.out w1 g1)
  clear g1 C1 C2
  go_wp2_with fail
  refine K2.out.mono ?_
  rintro e w2 ⟨v,rfl,g2⟩
  rw [HD.out] at g2 ⊢
  have G:=Lib.hid (HF.out w2 g2.drop.drop)
  clear g2 K2 HF
  go_wp2_with fail
  go_ret2
  exact G.out
 | some b=>
  have HD:=Lib.hid hd
  have hbl:b.length≤1048576:=by have:=HB.out;rw [hd] at this;exact this
  rw [hd] at HS
  simp only at HS
  have HBL:=Lib.hid hbl
  clear hd HB hbl
  by_cases hbad:(frScan b).2.2≠0∧i+1 < m.segs.length
  ·have HF:Hid (∀ w',In F0 w0 w' (Acc s::R)→ScanSegPost Acc (scanSeg ef d m i s) F0 w0 R (.returned (.tuple #[.int .i64 0,.int .i64 3])) w'):=Lib.hid fun w' h'=>by
    rw [HS.out,if_pos hbad];exact⟨rfl,h'⟩
   have q1:((frScan b).2.2 != 0)=true:=by rw [bne_iff_ne];exact hbad.1
   have hw1:IntKind.i64.wrap ((m.segs.length:Int) - 1)=(m.segs.length:Int) - 1:=IntWalk.i64_in _ (by omega)
   have q2:decide ((i:Int) < (m.segs.length:Int) - 1)=true:=by simp;omega
   clear hbad HS
   go_enter Tryz.func83,Tryz.ntmps83
   go_wp2_with fail
   refine C1.out.mono ?_
   rintro e w1 ⟨rfl,g1⟩
   have K2:=Lib.hid (C2.out w1 g1)
   clear g1 C1 C2
   go_wp2_with fail
   refine K2.out.mono ?_
   rintro e w2 ⟨v,rfl,g2⟩
   rw [HD.out] at g2 ⊢
   simp only [Option.getD_some,Option.isSome_some] at g2 ⊢
   obtain⟨ab,cb,rfl,hbb⟩:=row_bytes (b:=b) (i:=0) g2 rfl
   have K3:=Lib.hid (o_frscan g2 hbb (by have:=HBL.out;omega))
   clear g2 K2 hbb
   go_wp2_with fail
   refine K3.out.mono ?_
   rintro e w3 ⟨v3,rfl,g3⟩
   have d2:w3.cell? ⟨w.heap.size,2,none⟩=some (.slice (some ad) m.segs.length c):=cell_of (g3.block 2 rfl) rfl
   have G:=Lib.hid (HF.out w3 g3.drop.drop.drop)
   clear g3 K3 HF
   go_wp2_with fail
   go_ret2
   exact G.out
  ·have HF:Hid (∀ w',(tellAll ef m.ver (frScan b).1 s).2≠0→In F0 w0 w' (Acc (tellAll ef m.ver (frScan b).1 s).1::R)→ScanSegPost Acc (scanSeg ef d m i s) F0 w0 R (.returned (.tuple #[.int .i64 0,.int .i64 (tellAll ef m.ver (frScan b).1 s).2])) w'):=Lib.hid fun w' hne h'=>by
    rw [HS.out,if_neg hbad,if_pos hne];exact⟨rfl,h'⟩
   have HG:Hid (∀ w',(tellAll ef m.ver (frScan b).1 s).2=0→In F0 w0 w' (Acc (tellAll ef m.ver (frScan b).1 s).1::R)→ScanSegPost Acc (scanSeg ef d m i s) F0 w0 R (.returned (.tuple #[.int .i64 (frScan b).2.1,.int .i64 0])) w'):=Lib.hid fun w' h0 h'=>by
    rw [HS.out,if_neg hbad,if_neg (by rw [h0];simp)];exact⟨rfl,h'⟩
   have hw1:IntKind.i64.wrap ((m.segs.length:Int) - 1)=(m.segs.length:Int) - 1:=IntWalk.i64_in _ (by omega)
   have HQ:Hid ((((frScan b).2.2 != 0)=false)∨((((frScan b).2.2 != 0)=true)∧decide ((i:Int) < (m.segs.length:Int) - 1)=false)):=Lib.hid (by
    by_cases h0:(frScan b).2.2=0
    ·left;simp [h0]
    ·right;refine⟨by rw [bne_iff_ne];exact h0,by simp;omega⟩)
   have HFL:Hid ((frScan b).1.length≤1048576):=Lib.hid (Nat.le_trans (frScanN_len _ b) HBL.out)
   have HFO:Hid (∀ f∈(frScan b).1,FrOk f):=Lib.hid (frScanN_ok _ b)
   clear hbad HS
   go_enter Tryz.func83,Tryz.ntmps83
   go_wp2_with fail
   refine C1.out.mono ?_
   rintro e w1 ⟨rfl,g1⟩
   have K2:=Lib.hid (C2.out w1 g1)
   clear g1 C1 C2
   go_wp2_with fail
   refine K2.out.mono ?_
   rintro e w2 ⟨v,rfl,g2⟩
   rw [HD.out] at g2 ⊢
   simp only [Option.getD_some,Option.isSome_some] at g2 ⊢
   obtain⟨ab,cb,rfl,hbb⟩:=row_bytes (b:=b) (i:=0) g2 rfl
   have K3:=Lib.hid (o_frscan g2 hbb (by have:=HBL.out;omega))
   clear g2 K2 hbb
   go_wp2_with fail
   refine K3.out.mono ?_
   rintro e w3 ⟨v3,rfl,g3⟩
   obtain⟨vs,hvs,g4⟩:=(g3.sel2 (R1:=[_,_]) [0] (by decide) rfl).frsOpen
   generalize (frScan b).1=fs at *
   generalize (frScan b).2.2=er at *
   generalize (frScan b).2.1=nb at *
   obtain⟨Fr,hr⟩:=g4.get 0 rfl
   obtain⟨a3,c3,rfl,-,-,-⟩:=hr.shape
   have d2:w3.cell? ⟨w.heap.size,2,none⟩=some (.slice (some ad) m.segs.length c):=cell_of (g3.block 2 rfl) rfl
   have g5:In F0 w0 w3 (RowA 74 3 (.slice a3 fs.length c3) fs.length (flatFr fs vs)::Cells w.heap.size #[.int .i64 m.ver,.int .i64 m.next,.slice (some ad) m.segs.length c] 104::Acc s::(bodiesR vs fs++R)):=by
    have:=g4.perm (List.Perm.cons _ (List.perm_append_comm (l₁:=bodiesR vs fs) (l₂:=Cells w.heap.size #[.int .i64 m.ver,.int .i64 m.next,.slice (some ad) m.segs.length c] 104::Acc s::R)))
    exact this.perm (List.Perm.cons _ (List.Perm.cons _ (List.Perm.cons _ List.perm_append_comm)))
   have HR:Hid (TellRel μ ef Acc m.ver fs vs s (.slice a3 fs.length c3) w.heap.size #[.int .i64 m.ver,.int .i64 m.next,.slice (some ad) m.segs.length c] F0 w0 R (.int .i64 0) w3):=Lib.hid ⟨0,s,rfl,Nat.zero_le _,Nat.le_refl _,rfl,g5⟩
   have HVS:=Lib.hid hvs
   clear g3 g4 g5 hr K3 hvs
   have HQ2:=HQ.out
   clear HQ
   go_upto_region 5 with fail
   go_cut [46] (fun c wx=>c=.bool false∧wx=w3)
   case first=>
    rcases HQ2 with q1 | ⟨q1,q2⟩
    ·go_wp2_with fail
     go_meet
     exact⟨rfl,rfl⟩
    ·go_wp2_with fail
     go_meet
     exact⟨rfl,rfl⟩
   case rest=>
    obtain⟨rfl,rfl⟩:=hcut
    clear HQ2
    go_wp2_with fail
    go_loopw [49] (TellRel μ ef Acc m.ver fs vs s (.slice a3 fs.length c3) w.heap.size #[.int .i64 m.ver,.int .i64 m.next,.slice (some ad) m.segs.length c] F0 w0 R) (fun k _=>fs.length - (intOf k).toNat)
    case atStart=>exact HR.out
    case round=>
     obtain⟨k,s',rfl,hk,hmu,ht,ho⟩:=hrel
     have HMU:=Lib.hid hmu
     clear hmu
     clear HR d2
     by_cases hlt:k < fs.length
     ·obtain⟨f,hf⟩:∃ f,fs[k]?=some f:=⟨fs[k],List.getElem?_eq_getElem hlt⟩
      obtain⟨v,hv⟩:∃ v,vs[k]?=some v:=⟨vs[k]'(by have:=HVS.out;omega),List.getElem?_eq_getElem _⟩
      have hfl:=flatFr_at HVS.out hf hv
      have HFB:=Lib.hid (HFO.out f (List.mem_of_getElem? hf))
      have hdr:fs.drop k=f::fs.drop (k+1):=by
       obtain⟨a1,rfl⟩:=List.getElem?_eq_some_iff.1 hf
       exact List.drop_eq_getElem_cons a1
      rw [bodiesR_drop hf hv] at ho
      rw [hdr] at ht
      obtain⟨F3,r3⟩:=ho.get 3 rfl
      obtain⟨av,cv,rfl,-,-,-⟩:=RowA.shape r3
      obtain⟨F4,r4⟩:=ho.get 0 rfl
      obtain⟨g,rfl,e0⟩:=r4.at.2 _ _ hfl.1
      obtain⟨g',hg',e1⟩:=r4.at.2 _ _ hfl.2.1
      cases hg'
      obtain⟨g',hg',e2⟩:=r4.at.2 _ _ hfl.2.2
      cases hg'
      have dv:(wr.alloc (.cells #[.int .i64 f.kind,.int .i64 f.ver,.slice av f.body.length cv] 74)).cell? ⟨w.heap.size,0,none⟩=some (.int .i64 m.ver):=kp_alloc (cell_of (ho.block 1 rfl) rfl)
      have hlt':(k:Int) < (fs.length:Int):=by omega
      have hw2:wrap64 ((k:Int)+1)=(k:Int)+1:=by have:=HFL.out;unfold wrap64;omega
      have HO:=Lib.hid (ho.cells #[.int .i64 f.kind,.int .i64 f.ver,.slice av f.body.length cv] 74)
      clear ho hf hv hfl hdr r3 r4
      by_cases hver:f.ver=m.ver
      ·have qv:((f.ver:Int) != (m.ver:Int))=false:=by simp [hver]
       have HT:Hid (tellAll ef m.ver fs s=if (ef s' f).2≠0 then ef s' f else tellAll ef m.ver (fs.drop (k+1)) (ef s' f).1):=Lib.hid (by rw [ht];show (if f.ver≠m.ver then _ else _)=_;rw [if_neg (by simp [hver])])
       clear hver ht
       rcases hE.call with ⟨rfl,hnil⟩|⟨fid,bound,caps,rfl,hent,hcall⟩
       ·have HR:Hid (TellRel μ ef Acc m.ver fs vs s (.slice (some ⟨g,0,none⟩) fs.length c3) w.heap.size #[.int .i64 m.ver,.int .i64 m.next,.slice (some ad) m.segs.length c] F0 w0 R (.int .i64 (k+1)) (wr.alloc (.cells #[.int .i64 f.kind,.int .i64 f.ver,.slice av f.body.length cv] 74))):=Lib.hid ⟨k+1,s',by go_num,by omega,by have:=HMU.out;omega,by rw [HT.out,hnil];simp,by
         exact HO.out.drop.sel2 (R1:=[_,_,_,_]) [0,1,2] (by decide) rfl⟩
        clear HT HO HF HG hnil
        have he:=eqF_nil
        go_wp2_with fail
        go_roundw
        case rel=>rw [hw2];exact HR.out
        case measure=>rw [hw2];simp [intOf];omega
       ·have KC:=Lib.hid (hcall F0 w0 _ s' f _ _ (by have:=HMU.out;have:=HFL.out;omega) (by have:=HFB.out.body;omega) (HO.out.sel2 (R1:=[_,_,_,_,_]) [4,3,0,1,2] (by decide) rfl))
        clear HO hcall
        have hgr:=hE.grow s' f
        have HGR:Hid (μ (ef s' f).1≤μ s+(k+1)):=Lib.hid (by have:=HMU.out;omega)
        clear hgr
        generalize ef s' f=r at *
        by_cases hr:r.2=0
        ·have HR:Hid (∀ w',In F0 w0 w' (Acc r.1::Cells wr.heap.size #[.int .i64 f.kind,.int .i64 f.ver,.slice av f.body.length cv] 74::RowA 74 3 (.slice (some ⟨g,0,none⟩) fs.length c3) fs.length (flatFr fs vs)::Cells w.heap.size #[.int .i64 m.ver,.int .i64 m.next,.slice (some ad) m.segs.length c] 104::(bodiesR (vs.drop (k+1)) (fs.drop (k+1))++R)) →
          TellRel μ ef Acc m.ver fs vs s (.slice (some ⟨g,0,none⟩) fs.length c3) w.heap.size #[.int .i64 m.ver,.int .i64 m.next,.slice (some ad) m.segs.length c] F0 w0 R (.int .i64 (k+1)) w'):=Lib.hid fun w' h'=>
          ⟨k+1,r.1,by go_num,by omega,HGR.out,by rw [HT.out,if_neg (by simp [hr])],h'.sel2 (R1:=[_,_,_,_]) [2,3,0] (by decide) rfl⟩
         have HZ:=Lib.hid hr
         clear hr HT HF HG
         have he:=eqF_func fid bound caps
         go_wp2_with fail
         refine KC.out.mono ?_
         rintro e w4 ⟨rfl,g4⟩
         rw [HZ.out]
         have HRR:=Lib.hid (HR.out w4 g4)
         clear g4 HR KC
         go_wp2_with fail
         go_roundw
         case rel=>rw [hw2];exact HRR.out
         case measure=>rw [hw2];simp [intOf];omega
        ·have HX:Hid (∀ w',In F0 w0 w' (Acc r.1::Cells wr.heap.size #[.int .i64 f.kind,.int .i64 f.ver,.slice av f.body.length cv] 74::RowA 74 3 (.slice (some ⟨g,0,none⟩) fs.length c3) fs.length (flatFr fs vs)::Cells w.heap.size #[.int .i64 m.ver,.int .i64 m.next,.slice (some ad) m.segs.length c] 104::(bodiesR (vs.drop (k+1)) (fs.drop (k+1))++R)) →
          ScanSegPost Acc (scanSeg ef d m i s) F0 w0 R (.returned (.tuple #[.int .i64 0,.int .i64 r.2])) w'):=Lib.hid fun w' h'=>by
          have e:tellAll ef m.ver fs s=r:=by rw [HT.out,if_pos hr]
          have:=HF.out w' (by rw [e];exact hr) (by rw [e];exact In.mid (bodiesR (vs.drop (k+1)) (fs.drop (k+1))) (h'.sel2 (R1:=[_,_,_,_]) [0] (by decide) rfl))
          rw [e] at this
          exact this
         have qr:(r.2 != 0)=true:=by rw [bne_iff_ne];exact hr
         clear hr HT HF HG
         have he:=eqF_func fid bound caps
         go_wp2_with fail
         refine KC.out.mono ?_
         rintro e w4 ⟨rfl,g4⟩
         have HXX:=Lib.hid (HX.out w4 g4)
         clear g4 HX KC
         go_wp2_with fail
         go_ret2
         exact HXX.out
      ·have qv:((f.ver:Int) != (m.ver:Int))=true:=by simp;omega
       have HT:Hid (tellAll ef m.ver fs s=(s',3)):=Lib.hid (by rw [ht];show (if f.ver≠m.ver then _ else _)=_;rw [if_pos hver])
       have HX:=HF.out _ (by rw [HT.out];simp) (by rw [HT.out];exact In.mid (bodyA (.slice av f.body.length cv) f::bodiesR (vs.drop (k+1)) (fs.drop (k+1))) (HO.out.sel2 (R1:=[_,_,_,_]) [3] (by decide) rfl))
       rw [HT.out] at HX
       have HXX:=Lib.hid HX
       clear HX HT HO HF HG ht hver
       go_wp2_with fail
       go_ret2
       exact HXX.out
     ·have hge:(fs.length:Int)≤(k:Int):=by omega
      have hkl:fs.drop k=[]:=List.drop_eq_nil_of_le (by omega)
      have HT:tellAll ef m.ver fs s=(s',0):=by rw [ht,hkl];rfl
      have HX:=HG.out _ (by rw [HT]) (by rw [HT];exact In.mid (bodiesR (vs.drop k) (fs.drop k)) (ho.sel2 (R1:=[_,_,_]) [2] (by decide) rfl))
      have HXX:=Lib.hid HX
      clear HX HT ho HF HG ht hkl hlt
      go_wp2_with fail
      go_ret2
      exact HXX.out
end
def cutIf (l:LogD) (n:Nat) (d:DiskD):DiskD×Int:=if n=bytesD d (lastS l) then (d,0) else dCut d (lastS l) n
section
variable {F0:List Nat} {w0 w:World} {R:List Asrt} {bd lb:Nat} {d:DiskD} {l:LogD}
theorem o_open1 (h:In F0 w0 w (LgA lb bd l::DkA bd d::R)) (hl:LgOk l) (ho:d.ops≤99999900) {nb lx db n:Nat} (hn:n≤1000000000) (j k q:Nat) (hj:R[j]?=some (Cells nb #[.int .i64 n] 3)) (hk:R[k]?=some (Cells lx #[dptr lb] 65)) (hq:R[q]?=some (Cells db #[dptr bd] 26)) :
  Calls Tryz.prog 84 #[.pointer (some ⟨nb,0,none⟩),.pointer (some ⟨lx,0,none⟩),.pointer (some ⟨db,0,none⟩)] w fun e w'=>e=.returned (.int .i64 (cutIf l n d).2)∧In F0 w0 w' (LgA lb bd l::DkA bd (cutIf l n d).1::R):=by
 have HP:Hid (∀ w' d',In F0 w0 w' (LgA lb bd l::DkA bd d'::R)→w'.cell? ⟨nb,0,none⟩=some (.int .i64 n)∧w'.cell? ⟨lx,0,none⟩=some (dptr lb)∧w'.cell? ⟨db,0,none⟩=some (dptr bd)):=Lib.hid fun w' d' h'=>⟨cell_of (h'.block (j+2) hj) rfl,cell_of (h'.block (k+2) hk) rfl,cell_of (h'.block (q+2) hq) rfl⟩
 have HW:=Lib.hid (HP.out w d h)
 have hb:=bytesD_le h.dk (lastS l)
 have C1:=Lib.hid (fun w' (h':In F0 w0 w' (LgA lb bd l::DkA bd d::R)) n=>o_last (h'.drewN n) hl)
 have C2:=Lib.hid (fun w' (h':In F0 w0 w' (LgA lb bd l::DkA bd d::R))=>o_bytes h' (lastS l) (segName_size _))
 have C3:=Lib.hid (fun w' (h':In F0 w0 w' (LgA lb bd l::DkA bd d::R))=>o_dcut h' 1 rfl (by omega) (lastS l) (segName_size _) (n:Int))
 have HE:Hid (cutIf l n d=if n=bytesD d (lastS l) then (d,0) else dCut d (lastS l) n):=Lib.hid rfl
 have H:=Lib.hid h
 clear h hj hk hq hl ho hn
 generalize bytesD d (lastS l)=x at *
 by_cases hx:n=x
 ·rw [if_pos hx] at HE
  have qx:((n:Int) == (x:Int))=true:=by simp [hx]
  clear C3 hx
  go_enter Tryz.func84,Tryz.ntmps84
  go_wp2_with fail
  go_region_held3 (fun w'=>w'.cell? ⟨nb,0,none⟩=some (.int .i64 n)∧w'.cell? ⟨lx,0,none⟩=some (dptr lb)∧w'.cell? ⟨db,0,none⟩=some (dptr bd)) (first | exact HW.out | exact hc2 | exact hc1) (first
   | (go_at_call 77;refine (C1.out _ H.out 1).mono ?_;rintro e w1 ⟨rfl,g1⟩;have hc1:=HP.out w1 _ g1;have K2:=Lib.hid (C2.out w1 g1);clear g1)
   | (go_at_call 76;refine K2.out.mono ?_;rintro e w2 ⟨rfl,g2⟩;have hc2:=HP.out w2 _ g2;have G:=Lib.hid g2;clear g2))
  go_wp2_with fail
  go_ret
  exact⟨by rw [HE.out];rfl,by rw [HE.out];exact G.out⟩
 ·rw [if_neg hx] at HE
  have qx:((n:Int) == (x:Int))=false:=by simp;omega
  clear hx
  go_enter Tryz.func84,Tryz.ntmps84
  go_wp2_with fail
  go_region_held3 (fun w'=>w'.cell? ⟨nb,0,none⟩=some (.int .i64 n)∧w'.cell? ⟨lx,0,none⟩=some (dptr lb)∧w'.cell? ⟨db,0,none⟩=some (dptr bd)) (first | exact HW.out | exact hc2 | exact hc1) (first
   | (go_at_call 77;refine (C1.out _ H.out 1).mono ?_;rintro e w1 ⟨rfl,g1⟩;have hc1:=HP.out w1 _ g1;have K2:=Lib.hid (C2.out w1 g1);clear g1)
   | (go_at_call 76;refine K2.out.mono ?_;rintro e w2 ⟨rfl,g2⟩;have hc2:=HP.out w2 _ g2;have K3:=Lib.hid (C1.out _ g2 1);clear g2))
  clear K2 hc1 HW H
  go_wp2_with fail
  go_region_held3 (fun w'=>w'.cell? ⟨nb,0,none⟩=some (.int .i64 n)∧w'.cell? ⟨lx,0,none⟩=some (dptr lb)∧w'.cell? ⟨db,0,none⟩=some (dptr bd)) (first | exact hc2 | exact hc4 | exact hc3) (first
   | (go_at_call 77;refine K3.out.mono ?_;rintro e w3 ⟨rfl,g3⟩;have hc3:=HP.out w3 _ g3;have K4:=Lib.hid (C3.out w3 g3);clear g3)
   | (go_at_call 85;refine K4.out.mono ?_;rintro e w4 ⟨rfl,g4⟩;have hc4:=HP.out w4 _ g4;have G:=Lib.hid g4;clear g4))
  go_wp2_with fail
  go_ret
  exact⟨by rw [HE.out];rfl,by rw [HE.out];exact G.out⟩
theorem o_open2 (h:In F0 w0 w (LgA lb bd l::DkA bd d::R)) (hl:LgOk l) (ho:d.ops≤100000000) {lx db:Nat} (k q:Nat) (hk:R[k]?=some (Cells lx #[dptr lb] 65)) (hq:R[q]?=some (Cells db #[dptr bd] 26)) :
  Calls Tryz.prog 86 #[.pointer (some ⟨db,0,none⟩),.pointer (some ⟨lx,0,none⟩)] w fun e w'=>e=.returned (.int .i64 (dSync d (lastS l)).2)∧In F0 w0 w' (LgA lb bd l::DkA bd (dSync d (lastS l)).1::R):=by
 have HP:Hid (∀ w' d',In F0 w0 w' (LgA lb bd l::DkA bd d'::R)→w'.cell? ⟨lx,0,none⟩=some (dptr lb)∧w'.cell? ⟨db,0,none⟩=some (dptr bd)):=Lib.hid fun w' d' h'=>⟨cell_of (h'.block (k+2) hk) rfl,cell_of (h'.block (q+2) hq) rfl⟩
 have HW:=Lib.hid (HP.out w d h)
 have C1:=Lib.hid (fun n=>o_last (h.drewN n) hl)
 have C2:=Lib.hid (fun w' (h':In F0 w0 w' (LgA lb bd l::DkA bd d::R))=>o_dsync h' 1 rfl ho (lastS l) (segName_size _))
 clear h hk hq hl
 go_enter Tryz.func86,Tryz.ntmps86
 go_wp2_with fail
 go_region_held3 (fun w'=>w'.cell? ⟨lx,0,none⟩=some (dptr lb)∧w'.cell? ⟨db,0,none⟩=some (dptr bd)) (first | exact HW.out | exact hc2 | exact hc1) (first | (go_at_call 77;refine (C1.out 1).mono ?_;rintro e w1 ⟨rfl,g1⟩;have hc1:=HP.out w1 _ g1;have K2:=Lib.hid (C2.out w1 g1);clear g1) | (go_at_call 47;refine K2.out.mono ?_;rintro e w2 ⟨rfl,g2⟩;have hc2:=HP.out w2 _ g2;have G:=Lib.hid g2;clear g2))
 go_wp2_with fail
 go_ret
 exact⟨rfl,G.out⟩
theorem cutIf_ops (l:LogD) (n:Nat) (d:DiskD):(cutIf l n d).1.ops≤d.ops+1:=by
 unfold cutIf;split
 ·show d.ops≤_;omega
 ·have:=(dOps d (lastS l) (lastS l) [] n).2.2.1;omega
def openFs (l:LogD) (n:Nat):List (DiskD→DiskD×Int):=[cutIf l n,fun d=>dSync d (lastS l),dSyncDir]
theorem open_all {fb nb lx db n:Nat} (hl:LgOk l) (ho:d.ops≤99999000) (hn:n≤1000000000)
  (fs:List (FuncId×Array Value×Array Value)) (hfs:fs=[(84,#[],#[.pointer (some ⟨nb,0,none⟩),.pointer (some ⟨lx,0,none⟩),.pointer (some ⟨db,0,none⟩)]),(86,#[],#[.pointer (some ⟨db,0,none⟩),.pointer (some ⟨lx,0,none⟩)]),(87,#[dptr bd],#[])])
  (h:In F0 w0 w (Cells fb (fs.map fnV3).toArray 54::LgA lb bd l::DkA bd d::Cells lx #[dptr lb] 65::Cells nb #[.int .i64 n] 3::Cells db #[dptr bd] 26::R)) :
  Calls Tryz.prog 43 #[.slice (some ⟨fb,0,none⟩) 3 3] w fun e w'=>e=.returned (.int .i64 (foldD (openFs l n) d).2)∧In F0 w0 w' (LgA lb bd l::DkA bd (foldD (openFs l n) d).1::Cells lx #[dptr lb] 65::Cells nb #[.int .i64 n] 3::Cells db #[dptr bd] 26::R):=by
 have hent1:∀ args w',(callFunc 84 args).run Tryz.prog w'=.ok (.enter 84 args) w':=enters_of Tryz.func84 (by kernel_rfl) rfl
 have hent2:∀ args w',(callFunc 86 args).run Tryz.prog w'=.ok (.enter 86 args) w':=enters_of Tryz.func86 (by kernel_rfl) rfl
 have hent3:∀ args w',(callFunc 87 args).run Tryz.prog w'=.ok (.enter 87 args) w':=enters_of Tryz.func87 (by kernel_rfl) rfl
 have hlen:fs.length=3:=by rw [hfs];rfl
 have key:=all_fn3 (F0:=F0) (w0:=w0) (w:=w) (fun k (s:DiskD)=>s.ops≤99999000+10 * k)
  (fun s=>LgA lb bd l::DkA bd s::Cells lx #[dptr lb] 65::Cells nb #[.int .i64 n] 3::Cells db #[dptr bd] 26::R) fb 54 (openFs l n) fs (by rw [hlen];rfl) (by omega) d 3
  (by omega)
  (fun k f hf s hI=>by
   rcases k with _ | _ | _ | k
   ·cases hf;have:=cutIf_ops l n s;omega
   ·cases hf;have:=dSync_ops s (lastS l);show (dSync s (lastS l)).1.ops≤_;omega
   ·cases hf;have:=dDir_ops s;omega
   ·simp [openFs] at hf)
  (fun f hf=>by
   rw [hfs] at hf
   simp only [List.mem_cons,List.not_mem_nil,or_false] at hf
   rcases hf with rfl | rfl | rfl
   ·exact hent1
   ·exact hent2
   ·exact hent3)
  (fun k f g hf hg w' s hI h'=>by
   rw [hfs] at hf
   rcases k with _ | _ | _ | k
   ·cases hf;cases hg
    have:=o_open1 (h'.sel2 (R1:=[_,_,_]) [1,2,0] (by decide) rfl) hl (by omega) (nb:=nb) (lx:=lx) (db:=db) hn 2 1 3 rfl rfl rfl
    exact this.mono fun e w'' ⟨he,hw⟩=>⟨he,hw.sel2 (R1:=[_,_,_]) [2,0,1] (by decide) rfl⟩
   ·cases hf;cases hg
    have:=o_open2 (h'.sel2 (R1:=[_,_,_]) [1,2,0] (by decide) rfl) hl (by omega) (lx:=lx) (db:=db) 1 3 rfl rfl
    exact this.mono fun e w'' ⟨he,hw⟩=>⟨he,hw.sel2 (R1:=[_,_,_]) [2,0,1] (by decide) rfl⟩
   ·cases hf;cases hg
    have:=o_dsyncdir h' 2 rfl (by omega)
    exact this
   ·simp at hf) h
 rw [hlen] at key
 exact key.mono fun e w' ⟨he,hw⟩=>⟨he,hw.drop⟩
def OpenPost {σ:Type} (Acc:σ→Asrt) (bd:Nat) (r:σ×DiskD×Option LogD×Int) (F0:List Nat) (w0:World) (R:List Asrt) (e:Ending) (w':World):Prop:=
 match r.2.2.1 with
 | none=>e=.returned (.tuple #[.pointer none,.int .i64 r.2.2.2])∧In F0 w0 w' (Acc r.1::DkA bd r.2.1::R)
 | some l=>∃ lb,e=.returned (.tuple #[dptr lb,.int .i64 r.2.2.2])∧In F0 w0 w' (LgA lb bd l::Acc r.1::DkA bd r.2.1::R)
theorem openL_eq {σ:Type} (ef:σ→FrD→σ×Int) (size:Int) (d:DiskD) (s:σ) (b:List UInt8) (hb:dRead d nmHead=some b) (hm:(manDec b).2=0) :
  openL ef size d s=if (scanAll ef d (manDec b).1 (manDec b).1.segs.length 0 0 s).2.2≠0 then ((scanAll ef d (manDec b).1 (manDec b).1.segs.length 0 0 s).1,d,none,(scanAll ef d (manDec b).1 (manDec b).1.segs.length 0 0 s).2.2)
   else if (foldD (openFs ⟨sized size,(manDec b).1,false⟩ (scanAll ef d (manDec b).1 (manDec b).1.segs.length 0 0 s).2.1) d).2≠0 then ((scanAll ef d (manDec b).1 (manDec b).1.segs.length 0 0 s).1,(foldD (openFs ⟨sized size,(manDec b).1,false⟩ (scanAll ef d (manDec b).1 (manDec b).1.segs.length 0 0 s).2.1) d).1,none,(foldD (openFs ⟨sized size,(manDec b).1,false⟩ (scanAll ef d (manDec b).1 (manDec b).1.segs.length 0 0 s).2.1) d).2)
   else ((scanAll ef d (manDec b).1 (manDec b).1.segs.length 0 0 s).1,(foldD (openFs ⟨sized size,(manDec b).1,false⟩ (scanAll ef d (manDec b).1 (manDec b).1.segs.length 0 0 s).2.1) d).1,some ⟨sized size,(manDec b).1,false⟩,0):=by
 unfold openL
 rw [hb]
 simp only
 rw [if_neg (by rw [hm];simp)]
 rfl
end
theorem frScanN_le:∀ (n:Nat) (b:List UInt8),(frScanN n b).2.1≤b.length
 | 0,b=>Nat.zero_le _
 | n+1,b=>by
  unfold frScanN
  split
  ·simp
  ·split
   ·rename_i h1 h2
    have h3:=(frTake_ok h2).2.1
    have:=frScanN_le n (b.drop (frTake b).2.1)
    rw [List.length_drop] at this
    simp only;omega
   ·simp
theorem scanSeg_le {σ:Type} {ef:σ→FrD→σ×Int} {d:DiskD} (h:DiskOk d) (m:ManD) (i:Nat) (s:σ):(scanSeg ef d m i s).2.1≤1048576:=by
 unfold scanSeg
 cases e:dRead d (segName (m.segs.getD i 0)) with
 | none=>simp
 | some b=>
  have hb:b.length≤1048576:=by have:=bytesD_le h (segName (m.segs.getD i 0));unfold bytesD at this;rw [e] at this;exact this
  have:=frScanN_le b.length b
  simp only
  split
  ·simp
  ·split
   ·simp
   ·show (frScanN b.length b).2.1≤_;omega
theorem manDec_may {b:List UInt8} (h:(manDec b).2=0):mayM (manDec b).1=true:=by
 unfold manDec at h ⊢
 split at h
 ·rename_i h1;exact absurd h h1
 ·rename_i h1
  rw [if_neg h1]
  split at h
  ·cases h
  ·rename_i h2
   rw [if_neg h2]
   split at h
   ·cases h
   ·rename_i h3
    rw [if_neg h3]
    simp only at h ⊢
    split at h
    ·rename_i h4
     rw [if_pos h4]
     exact h4.2
    ·cases h
section
variable {F0:List Nat} {w0 w:World} {R:List Asrt} {bd:Nat} {d:DiskD} {σ:Type} {μ:σ→Nat} {Acc:σ→Asrt} {ef:σ→FrD→σ×Int} {ev:Value}
theorem scanSeg_mu (h:DiskOk d) (hg:∀ s f,μ (ef s f).1≤μ s+1) (m:ManD) (i:Nat) (s:σ):μ (scanSeg ef d m i s).1≤μ s+1048576:=by
 unfold scanSeg
 cases e:dRead d (segName (m.segs.getD i 0)) with
 | none=>simp
 | some b=>
  have hb:b.length≤1048576:=by have:=bytesD_le h (segName (m.segs.getD i 0));unfold bytesD at this;rw [e] at this;exact this
  have h1:=frScanN_len b.length b
  have h2:=tellAll_mu hg m.ver (frScan b).1 s
  have h3:(frScan b).1.length≤b.length:=h1
  simp only
  split
  ·simp
  ·split
   ·show μ (tellAll ef m.ver (frScan b).1 s).1≤_;omega
   ·show μ (tellAll ef m.ver (frScan b).1 s).1≤_;omega
abbrev manC (m:ManD) (v:Value):Array Value:=#[.int .i64 m.ver,.int .i64 m.next,v]
def OpenMid (Acc:σ→Asrt) (s:σ) (bd db mb:Nat) (d:DiskD) (l:LogD) (v:Value) (F0:List Nat) (w0:World) (R:List Asrt) (x:Value) (wx:World):Prop:=
 ∃ lx lb,x=.pointer (some ⟨lx,0,none⟩)∧In F0 w0 wx (Acc s::Cells lx #[dptr lb] 65::RowA 3 1 v l.m.segs.length (segV l.m.segs)::Cells lb (lgC bd l v) 112::Cells mb (manC l.m v) 104::Cells db #[dptr bd] 26::DkA bd d::R)
def OpenRel (μ:σ→Nat) (Acc:σ→Asrt) (ef:σ→FrD→σ×Int) (s:σ) (bd db mb lx lb nb:Nat) (d:DiskD) (l:LogD) (v:Value) (F0:List Nat) (w0:World) (R:List Asrt) (i:Value) (wr:World):Prop:=
 ∃ (k:Nat) (s':σ) (n:Nat),i=.int .i64 k∧k≤l.m.segs.length∧n≤1048576∧μ s'≤μ s+k * 1048576∧scanAll ef d l.m l.m.segs.length 0 0 s=scanAll ef d l.m (l.m.segs.length - k) k n s' ∧
  In F0 w0 wr (Acc s'::Cells nb #[.int .i64 n] 3::Cells lx #[dptr lb] 65::RowA 3 1 v l.m.segs.length (segV l.m.segs)::Cells lb (lgC bd l v) 112::Cells mb (manC l.m v) 104::Cells db #[dptr bd] 26::DkA bd d::R)
theorem o_open (hE:EachOk μ ev Acc ef) (s:σ) (hμ:μ s≤10000000) (h:In F0 w0 w (Acc s::DkA bd d::R)) (ho:d.ops≤99999000) (size:Int) :
  Calls Tryz.prog 32 #[dptr bd,.int .i64 size,ev] w (OpenPost Acc bd (openL ef size d s) F0 w0 R):=by
 have h1:=h.cells #[dptr bd] 26
 have c0:(w.alloc (.cells #[dptr bd] 26)).cell? ⟨w.heap.size,0,none⟩=some (dptr bd):=cell_of (h1.block 0 rfl) rfl
 have hdk:DiskOk d:=by
  obtain⟨F,hF⟩:=h.get 1 rfl
  exact hF.1
 have HB:Hid (((dRead d nmHead).getD []).length≤1048576):=Lib.hid (bytesD_le hdk nmHead)
 have C1:=Lib.hid (o_dread h1 2 rfl nmHead nmHead_size)
 have HERR:Hid (∀ w' x,In F0 w0 w' (Cells w.heap.size #[dptr bd] 26::Acc s::DkA bd d::R)→openL ef size d s=(s,d,none,x)→OpenPost Acc bd (openL ef size d s) F0 w0 R (.returned (.tuple #[.pointer none,.int .i64 x])) w'):=Lib.hid fun w' x h' hx=>by
  rw [hx];exact⟨rfl,h'.drop⟩
 have HHO:=Lib.hid ho
 clear h h1 ho
 cases hd:dRead d nmHead with
 | none=>
  have HX:=Lib.hid (fun w' h'=>HERR.out w' 6 h' (by unfold openL;rw [hd]))
  have HD:=Lib.hid hd
  clear hd HERR HB
  go_enter Tryz.func32,Tryz.ntmps32
  go_wp2_with fail
  refine C1.out.mono ?_
  rintro e w1 ⟨v,rfl,g1⟩
  rw [HD.out] at g1 ⊢
  have G:=Lib.hid (HX.out w1 g1.drop)
  clear g1 C1 HX
  go_wp2_with fail
  go_ret2
  exact G.out
 | some b=>
  have HD:=Lib.hid hd
  have HBL:Hid (b.length≤1048576):=Lib.hid (by have:=HB.out;rw [hd] at this;exact this)
  by_cases hm:(manDec b).2=0
  ·have HE:=Lib.hid (openL_eq ef size d s b hd hm)
   have HM:=Lib.hid hm
   have HMAY:=Lib.hid (manDec_may hm)
   have HDK:Hid (∀ (m:ManD) (i:Nat) (s:σ),(scanSeg ef d m i s).2.1≤1048576):=Lib.hid fun m i s=>scanSeg_le hdk m i s
   have HDM:Hid (∀ (m:ManD) (i:Nat) (s:σ),μ (scanSeg ef d m i s).1≤μ s+1048576):=Lib.hid fun m i s=>scanSeg_mu hdk hE.grow m i s
   clear hd HERR HB hm hdk
   go_enter Tryz.func32,Tryz.ntmps32
   go_wp2_with fail
   refine C1.out.mono ?_
   rintro e w1 ⟨v,rfl,g1⟩
   rw [HD.out] at g1 ⊢
   simp only [Option.getD_some,Option.isSome_some] at g1 ⊢
   obtain⟨ab,cb,rfl,hbb⟩:=row_bytes (b:=b) (i:=0) g1 rfl
   have K2:=Lib.hid (o_mfdec g1 hbb (by have:=HBL.out;omega))
   clear g1 C1 hbb
   go_wp2_with fail
   refine K2.out.mono ?_
   rintro e w2 ⟨v,rfl,g2⟩
   rw [HM.out]
   obtain⟨F2,r2⟩:=g2.get 0 rfl
   obtain⟨a2,c2,rfl,-,-,-⟩:=r2.shape
   generalize (manDec b).1=m at *
   have g3:=g2.cells (manC m (.slice a2 m.segs.length c2)) 104
   have hdb:w.heap.size < w2.heap.size:=hp_lt (g2.block 2 rfl)
   clear r2 g2 K2 c0
   go_upto_region 9 with fail
   go_cut [12] (fun x wx=>OpenMid Acc s bd w.heap.size w2.heap.size d ⟨sized size,m,false⟩ (.slice a2 m.segs.length c2) F0 w0 R x wx)
   case first=>
    have s0:(w2.alloc (.cells (manC m (.slice a2 m.segs.length c2)) 104)).cell? ⟨w.heap.size,0,none⟩=some (dptr bd):=cell_of (g3.block 3 rfl) rfl
    have s1:(w2.alloc (.cells (manC m (.slice a2 m.segs.length c2)) 104)).cell? ⟨w2.heap.size,0,none⟩=some (.int .i64 m.ver):=cell_of (g3.block 0 rfl) rfl
    have s2:(w2.alloc (.cells (manC m (.slice a2 m.segs.length c2)) 104)).cell? ⟨w2.heap.size,1,none⟩=some (.int .i64 m.next):=cell_of (g3.block 0 rfl) rfl
    have s3:(w2.alloc (.cells (manC m (.slice a2 m.segs.length c2)) 104)).cell? ⟨w2.heap.size,2,none⟩=some (.slice a2 m.segs.length c2):=cell_of (g3.block 0 rfl) rfl
    have gA:=((g3.cells (lgC bd ⟨sized size,m,false⟩ (.slice a2 m.segs.length c2)) 112).cells #[dptr (w2.heap.size+1)] 65).drewN 1
    have gB:=((g3.cells #[dptr (w2.heap.size+1+1)] 65).cells (lgC bd ⟨sized size,m,false⟩ (.slice a2 m.segs.length c2)) 112).drewN 1
    simp only [World.size_alloc] at gA gB
    have HA:Hid (OpenMid Acc s bd w.heap.size w2.heap.size d ⟨sized size,m,false⟩ (.slice a2 m.segs.length c2) F0 w0 R (.pointer (some ⟨w2.heap.size+1+1,0,none⟩)) _):=Lib.hid ⟨_,_,rfl,gA.sel2 (R1:=[_,_,_,_,_,_,_,_]) [6,0,3,1,2,5,7] (by decide) rfl⟩
    have HB:Hid (OpenMid Acc s bd w.heap.size w2.heap.size d ⟨sized size,m,false⟩ (.slice a2 m.segs.length c2) F0 w0 R (.pointer (some ⟨w2.heap.size+1,0,none⟩)) _):=Lib.hid ⟨_,_,rfl,gB.sel2 (R1:=[_,_,_,_,_,_,_,_]) [6,1,3,0,2,5,7] (by decide) rfl⟩
    have n1:¬ w2.heap.size+1=w.heap.size:=by omega
    have n2:¬ w2.heap.size+1+1=w.heap.size:=by omega
    clear gA gB g3 hdb HE
    go_region_held3 (fun w'=>w'.cell? ⟨w.heap.size,0,none⟩=some (dptr bd)∧w'.cell? ⟨w2.heap.size,0,none⟩=some (.int .i64 m.ver)∧w'.cell? ⟨w2.heap.size,1,none⟩=some (.int .i64 m.next)∧w'.cell? ⟨w2.heap.size,2,none⟩=some (.slice a2 m.segs.length c2))
     (first | ((refine⟨?_,?_,?_,?_⟩ <;> repeat (first | with_reducible exact s0 | with_reducible exact s1 | with_reducible exact s2 | with_reducible exact s3 | rw [World.cell?_drew] | with_reducible refine kp_alloc ?_));done) | go_keep)
     (first | (go_at_call 51;refine (o_sized size _).mono ?_;rintro e w3 ⟨rfl,rfl⟩))
    all_goals (go_wp2_with fail;go_meet;first | exact HA.out | exact HB.out)
   case rest=>
    obtain⟨lx,lb,rfl,hx⟩:=hcut
    have d2:(wc.alloc (.cells #[.int .i64 0] 3)).cell? ⟨w2.heap.size,2,none⟩=some (.slice a2 m.segs.length c2):=kp_alloc (cell_of (hx.block 4 rfl) rfl)
    have g4:=(hx.cells #[.int .i64 0] 3).sel2 (R1:=[_,_]) [1,0] (by decide) rfl
    have HR:Hid (OpenRel μ Acc ef s bd w.heap.size w2.heap.size lx lb wc.heap.size d ⟨sized size,m,false⟩ (.slice a2 m.segs.length c2) F0 w0 R (.int .i64 0) (wc.alloc (.cells #[.int .i64 0] 3))):=Lib.hid ⟨0,s,0,rfl,Nat.zero_le _,Nat.zero_le _,by omega,rfl,g4⟩
    have hml:=(mayM_iff.1 HMAY.out).1
    have hlen:m.segs.length≤64:=hml.2.2.2.1
    have HSEG:Hid (∀ x∈m.segs,x < 4611686018427387904):=Lib.hid fun x hx=>by have:=mayM_seg HMAY.out hx;omega
    have HLOK:Hid (LgOk ⟨sized size,m,false⟩):=Lib.hid ⟨(sized_bounds size).1,(sized_bounds size).2,HMAY.out⟩
    clear hx g4 hml g3 hdb
    go_wp2_with fail
    go_loopw [41] (OpenRel μ Acc ef s bd w.heap.size w2.heap.size lx lb wc.heap.size d ⟨sized size,m,false⟩ (.slice a2 m.segs.length c2) F0 w0 R) (fun k _=>m.segs.length - (intOf k).toNat)
    case atStart=>exact HR.out
    case round=>
     obtain⟨k,s',n,rfl,hk,hn,hmu,ht,ho⟩:=hrel
     have HMU:=Lib.hid hmu
     clear hmu
     clear HR d2
     simp only at hk ht
     by_cases hlt:k < m.segs.length
     ·have C:=o_scan hE s' (by have:=HMU.out;omega) ho 6 rfl m (A:=a2) (c:=c2) (fun w' h'=>by obtain⟨F',r'⟩:=h'.get 2 rfl;exact r'.all) k hlt (by omega) HSEG.out
      have e0:wr.cell? ⟨w.heap.size,0,none⟩=some (dptr bd):=cell_of (ho.block 6 rfl) rfl
      have e1:wr.cell? ⟨w2.heap.size,0,none⟩=some (.int .i64 m.ver):=cell_of (ho.block 5 rfl) rfl
      have e2:wr.cell? ⟨w2.heap.size,1,none⟩=some (.int .i64 m.next):=cell_of (ho.block 5 rfl) rfl
      have e3:wr.cell? ⟨w2.heap.size,2,none⟩=some (.slice a2 m.segs.length c2):=cell_of (ho.block 5 rfl) rfl
      have hr9:=HDK.out m k s'
      have HGR:Hid (μ (scanSeg ef d m k s').1≤μ s+(k+1) * 1048576):=Lib.hid (by have:=HMU.out;have:=HDM.out m k s';omega)
      have hstep:scanAll ef d m (m.segs.length - k) k n s'=if (scanSeg ef d m k s').2.2≠0 then scanSeg ef d m k s' else scanAll ef d m (m.segs.length - (k+1)) (k+1) (scanSeg ef d m k s').2.1 (scanSeg ef d m k s').1:=by
       rw [show m.segs.length - k=(m.segs.length - (k+1))+1 by omega];rfl
      rw [hstep] at ht
      unfold manAgg at C
      have KC:=Lib.hid C
      have hlt':(k:Int) < (m.segs.length:Int):=by omega
      have hw2:wrap64 ((k:Int)+1)=(k:Int)+1:=by unfold wrap64;omega
      clear C ho hstep
      generalize scanSeg ef d m k s'=r at *
      by_cases hr:r.2.2=0
      ·have HRR:Hid (∀ w',In F0 w0 w' (Acc r.1::Cells wc.heap.size #[.int .i64 r.2.1] 3::Cells lx #[dptr lb] 65::RowA 3 1 (.slice a2 m.segs.length c2) m.segs.length (segV m.segs)::Cells lb (lgC bd ⟨sized size,m,false⟩ (.slice a2 m.segs.length c2)) 112::Cells w2.heap.size (manC m (.slice a2 m.segs.length c2)) 104::Cells w.heap.size #[dptr bd] 26::DkA bd d::R) →
         OpenRel μ Acc ef s bd w.heap.size w2.heap.size lx lb wc.heap.size d ⟨sized size,m,false⟩ (.slice a2 m.segs.length c2) F0 w0 R (.int .i64 ((k:Int)+1)) w'):=Lib.hid fun w' h'=>
        ⟨k+1,r.1,r.2.1,by go_num,hlt,hr9,HGR.out,by rw [ht,if_neg (by simp [hr])],h'⟩
       have HZ:=Lib.hid hr
       clear hr ht HE
       go_wp2_with fail
       refine KC.out.mono ?_
       rintro e w4 ⟨rfl,g4⟩
       rw [HZ.out]
       have dn:w4.cell? ⟨wc.heap.size,0,none⟩=some (.int .i64 n):=cell_of (g4.block 1 rfl) rfl
       have fn:w4.frozen? ⟨wc.heap.size,0,none⟩=false:=free_of (g4.block 1 rfl)
       have HX:=Lib.hid (HRR.out _ (g4.put 1 rfl 0 (.int .i64 r.2.1)))
       clear g4 HRR KC
       go_wp2_with fail
       go_roundw
       case rel=>first | exact HX.out | (rw [hw2];exact HX.out)
       case measure=>first | (rw [hw2];simp [intOf];omega) | (simp [intOf];omega)
      ·have HX:Hid (∀ w',In F0 w0 w' (Acc r.1::Cells wc.heap.size #[.int .i64 r.2.1] 3::Cells lx #[dptr lb] 65::RowA 3 1 (.slice a2 m.segs.length c2) m.segs.length (segV m.segs)::Cells lb (lgC bd ⟨sized size,m,false⟩ (.slice a2 m.segs.length c2)) 112::Cells w2.heap.size (manC m (.slice a2 m.segs.length c2)) 104::Cells w.heap.size #[dptr bd] 26::DkA bd d::R) →
         OpenPost Acc bd (openL ef size d s) F0 w0 R (.returned (.tuple #[.pointer none,.int .i64 r.2.2])) w'):=Lib.hid fun w' h'=>by
        have e:scanAll ef d m m.segs.length 0 0 s=r:=by rw [ht,if_pos hr]
        rw [HE.out,e,if_pos hr]
        exact⟨rfl,h'.sel2 (R1:=[_,_,_,_,_,_,_,_]) [0,7] (by decide) rfl⟩
       have qr:(r.2.2 != 0)=true:=by rw [bne_iff_ne];exact hr
       clear hr ht HE
       go_wp2_with fail
       refine KC.out.mono ?_
       rintro e w4 ⟨rfl,g4⟩
       have dn:w4.cell? ⟨wc.heap.size,0,none⟩=some (.int .i64 n):=cell_of (g4.block 1 rfl) rfl
       have fn:w4.frozen? ⟨wc.heap.size,0,none⟩=false:=free_of (g4.block 1 rfl)
       have HXX:=Lib.hid (HX.out _ (g4.put 1 rfl 0 (.int .i64 r.2.1)))
       clear g4 HX KC
       go_wp2_with fail
       go_ret2
       exact HXX.out
     ·have hge:(m.segs.length:Int)≤(k:Int):=by omega
      have e:scanAll ef d m m.segs.length 0 0 s=(s',n,0):=by rw [ht,show m.segs.length - k=0 by omega];rfl
      rw [e] at HE
      have HE2:Hid (openL ef size d s=if (foldD (openFs ⟨sized size,m,false⟩ n) d).2≠0 then (s',(foldD (openFs ⟨sized size,m,false⟩ n) d).1,none,(foldD (openFs ⟨sized size,m,false⟩ n) d).2) else (s',(foldD (openFs ⟨sized size,m,false⟩ n) d).1,some ⟨sized size,m,false⟩,0)):=Lib.hid (by rw [HE.out,if_neg (by simp)])
      have e0:wr.cell? ⟨w.heap.size,0,none⟩=some (dptr bd):=cell_of (ho.block 6 rfl) rfl
      have g5:=ho.cells #[.func (.func 84) #[] #[.pointer (some ⟨wc.heap.size,0,none⟩),.pointer (some ⟨lx,0,none⟩),.pointer (some ⟨w.heap.size,0,none⟩)],.func (.func 86) #[] #[.pointer (some ⟨w.heap.size,0,none⟩),.pointer (some ⟨lx,0,none⟩)],.func (.func 87) #[dptr bd] #[]] 54
      have g6:In F0 w0 _ (LgA lb bd ⟨sized size,m,false⟩::_):=In.lgClose (l':=⟨sized size,m,false⟩) (v:=.slice a2 m.segs.length c2) (g5.sel2 (R1:=[_,_,_,_,_,_,_,_,_]) [4,5,0,8,3,2,7,1,6] (by decide) rfl)
      have K:=open_all (R:=Acc s'::Cells w2.heap.size (manC m (.slice a2 m.segs.length c2)) 104::R) (nb:=wc.heap.size) (lx:=lx) (db:=w.heap.size) (fb:=wr.heap.size) HLOK.out HHO.out (show n≤1000000000 by omega) _ rfl (g6.sel2 (R1:=[_,_]) [1,0] (by decide) rfl)
      have KH:=Lib.hid K
      clear K g5 g6 ho ht e HE
      generalize foldD (openFs ⟨sized size,m,false⟩ n) d=r at *
      by_cases hr:r.2=0
      ·have HX:Hid (∀ w',In F0 w0 w' (LgA lb bd ⟨sized size,m,false⟩::DkA bd r.1::Cells lx #[dptr lb] 65::Cells wc.heap.size #[.int .i64 n] 3::Cells w.heap.size #[dptr bd] 26::Acc s'::Cells w2.heap.size (manC m (.slice a2 m.segs.length c2)) 104::R) →
         OpenPost Acc bd (openL ef size d s) F0 w0 R (.returned (.tuple #[dptr lb,.int .i64 0])) w'):=Lib.hid fun w' h'=>by
        rw [HE2.out,if_neg (by simp [hr])]
        exact⟨lb,rfl,h'.sel2 (R1:=[_,_,_,_,_,_,_]) [0,5,1] (by decide) rfl⟩
       have HZ:=Lib.hid hr
       clear hr HE2
       go_wp2_with fail
       refine KH.out.mono ?_
       rintro e w4 ⟨rfl,g4⟩
       rw [HZ.out]
       have dl:w4.cell? ⟨lx,0,none⟩=some (dptr lb):=cell_of (g4.block 2 rfl) rfl
       have HXX:=Lib.hid (HX.out w4 g4)
       clear g4 HX KH
       go_wp2_with fail
       go_ret2
       exact HXX.out
      ·have HX:Hid (∀ w',In F0 w0 w' (LgA lb bd ⟨sized size,m,false⟩::DkA bd r.1::Cells lx #[dptr lb] 65::Cells wc.heap.size #[.int .i64 n] 3::Cells w.heap.size #[dptr bd] 26::Acc s'::Cells w2.heap.size (manC m (.slice a2 m.segs.length c2)) 104::R) →
         OpenPost Acc bd (openL ef size d s) F0 w0 R (.returned (.tuple #[.pointer none,.int .i64 r.2])) w'):=Lib.hid fun w' h'=>by
        rw [HE2.out,if_pos hr]
        exact⟨rfl,h'.sel2 (R1:=[_,_,_,_,_,_,_]) [5,1] (by decide) rfl⟩
       have qr:(r.2 != 0)=true:=by rw [bne_iff_ne];exact hr
       clear hr HE2
       go_wp2_with fail
       refine KH.out.mono ?_
       rintro e w4 ⟨rfl,g4⟩
       have HXX:=Lib.hid (HX.out w4 g4)
       clear g4 HX KH
       go_wp2_with fail
       go_ret2
       exact HXX.out
  ·have HX:=Lib.hid (fun w' h'=>HERR.out w' (manDec b).2 h' (by unfold openL;rw [hd];simp only;rw [if_pos hm]))
   have qm:((manDec b).2 != 0)=true:=by rw [bne_iff_ne];exact hm
   clear hd HERR HB hm
   go_enter Tryz.func32,Tryz.ntmps32
   go_wp2_with fail
   refine C1.out.mono ?_
   rintro e w1 ⟨v,rfl,g1⟩
   rw [HD.out] at g1 ⊢
   simp only [Option.getD_some,Option.isSome_some] at g1 ⊢
   obtain⟨ab,cb,rfl,hbb⟩:=row_bytes (b:=b) (i:=0) g1 rfl
   have K2:=Lib.hid (o_mfdec g1 hbb (by have:=HBL.out;omega))
   clear g1 C1 hbb
   go_wp2_with fail
   refine K2.out.mono ?_
   rintro e w2 ⟨v,rfl,g2⟩
   obtain⟨F2,r2⟩:=g2.get 0 rfl
   obtain⟨a2,c2,rfl,-,-,-⟩:=r2.shape
   have G:=Lib.hid (HX.out _ ((g2.alloc (.cells #[.int .i64 (manDec b).1.ver,.int .i64 (manDec b).1.next,.slice a2 (manDec b).1.segs.length c2] 104)).drop.drop))
   clear g2 r2 K2 HX
   go_wp2_with fail
   go_ret2
   exact G.out
end
def ToldA (vb:Nat) (fs:List FrD):Asrt:=fun w F=>∃ v,Star [Cells vb #[v] 197,FrsA v fs] w F
section
variable {F0:List Nat} {w0 w:World} {R:List Asrt}
end
section
variable {F0:List Nat} {w0 w:World} {R:List Asrt} {bd lb:Nat} {l:LogD}
theorem o_version (h:In F0 w0 w (LgA lb bd l::R)):Calls Tryz.prog 26 #[dptr lb] w fun e w'=>e=.returned (.int .i64 l.m.ver)∧w'=w:=by
 obtain⟨a,c,h1⟩:=h.lgOpen
 have c2:w.cell? ⟨lb,2,none⟩=some (.int .i64 l.m.ver):=cell_of (h1.block 1 rfl) rfl
 clear h h1
 go_enter Tryz.func26,Tryz.ntmps26
 go_wp2_with fail
 go_ret
 exact⟨rfl,rfl⟩
def isX (f:FrD):Bool:=decide (f.body=[120])
def CountA (vb:Nat) (n:Nat):Asrt:=Cells vb #[.int .i64 n] 3
def countF (n:Nat) (f:FrD):Nat×Int:=(if isX f then n+1 else n,0)
end
end Go.Proofs.YtpmmiljakbojaaaGreat
