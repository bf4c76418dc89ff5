/- Rows.StoreRefusesSaid -/
import Derived.Test.YtpmmiljakbojaaaGreatRF5
import Derived.Test.YtpmmiljakbojaaaGreatRF32
import Derived.Test.YtpmmiljakbojaaaGreatRF2
import Derived.LaidEql
import Derived.Maps.Keyed
import Derived.MapKept
import Derived.Test.YtpmmiljakbojaaaGreatRF15
import Derived.Test.YtpmmiljakbojaaaGreatRF4
import Derived.Test.YtpmmiljakbojaaaGreatRF8
import Derived.Deep.DeepCutAuto
import Derived.Deep.RegionHeld3
namespace Go.Proofs.YtpmmiljakbojaaaGreat
open Go.RowKit
open Go.RowKit Go.MapKept
open Go.ChangeMaps (setBlock)
set_option linter.unusedVariables false
set_option maxHeartbeats 64000000
set_option maxRecDepth 100000
theorem writeS_ops (r:Rec) (s:SD):(writeS r s).1.1.ops≤s.1.ops+11:=by
 have h:=appendL_ops ((writeE r s).1.kind:Int) (writeE r s).1.body (s.1,s.2.l)
 unfold writeS
 repeat' split
 all_goals first | exact Nat.le_add_right _ _ | exact h
structure SuSt (M k z:Nat) (s:SD):Prop where
 rm:∃ Fr kk,SoRm s Fr kk (M - k)
 size:s.2.l.size=z
 ops:s.1.ops≤1000+20 * k
theorem SuSt.inv {M k z:Nat} {s:SD} (h:SuSt M k z s):∃ Fr kk,SoInv s Fr kk Fr kk:=by
 obtain⟨Fr,kk,g⟩:=h.rm
 exact⟨Fr,kk,g.inv⟩
theorem SuSt.lgOk {M k z:Nat} {s:SD} (h:SuSt M k z s) (hz:16≤z∧z≤1048576):LgOk s.2.l:=by
 obtain⟨_,_,g⟩:=h.inv
 exact⟨by rw [h.size];exact hz.1,by rw [h.size];exact hz.2,g.log.now.1⟩
theorem SuSt.write {M k z:Nat} {s:SD} (h:SuSt M k z s) (hk:k < M) {r:Rec} (wr:WfR r):SuSt M (k+1) z (writeS r s).1∧(writeS r s).1.2.sure=s.2.sure:=by
 obtain⟨Fr,kk,g⟩:=h.rm
 rw [show M - k=(M - (k+1))+1 by omega] at g
 obtain⟨a1,a2,a3,a4⟩:=g.write wr
 have ho:=writeS_ops r s
 refine⟨⟨?_,by rw [a1];exact h.size,by have:=h.ops;omega⟩,a3⟩
 rcases a4 with ⟨_,f,b⟩|⟨_,b⟩
 ·exact⟨_,_,b⟩
 ·rw [b];exact⟨Fr,kk,g.less (by omega)⟩
theorem ver_of (n:Int):1≤wrap64 (1+wrap64 ((IntKind.u64.wrap n).tmod 3))∧wrap64 (1+wrap64 ((IntKind.u64.wrap n).tmod 3))≤3:=by
 have e:IntKind.u64.wrap n=n % 18446744073709551616:=rfl
 rw [e]
 have h1:(n % 18446744073709551616).tmod 3=(n % 18446744073709551616) % 3:=Int.tmod_eq_emod_of_nonneg (by omega)
 rw [h1]
 unfold wrap64;omega
theorem dNew_ops (q:Int):(dNew q).ops=0:=rfl
theorem created_ops {v size:Int} {d:DiskD}:(createD v size d).1.ops≤d.ops+20:=by
 unfold createD
 by_cases h1:v < 1∨3 < v
 ·rw [if_pos h1];exact Nat.le_add_right _ _
 rw [if_neg h1]
 by_cases h2:(nmAt d.now nmHead).isSome=true
 ·rw [if_pos h2];exact Nat.le_add_right _ _
 rw [if_neg h2]
 have hb:=thenD_le (μ:=fun d:DiskD=>d.ops) (r:=thenD (beginD 1 d) (fun d=>dSync d (segName 1))) (f:=fun d=>((commitD (firstM v.toNat) d).1,(commitD (firstM v.toNat) d).2.2)) (a:=d.ops+3) (b:=5) (thenD_le (μ:=fun d:DiskD=>d.ops) (a:=d.ops+2) (b:=1) (beginD_ops 1 d) fun t=>dSync_ops t _) (fun t=>commitD_ops _ t)
 simp only
 split
 ·simp only;omega
 ·simp only;omega
theorem SuSt.start (M:Nat) (hM:M≤62) {v:Int} (hv:1≤v∧v≤3) (size:Int):∃ s:SD,createS v size (dNew 300000)=(s.1,some s.2,0)∧SuSt M 0 (sized size) s∧s.2.st=zeroSt∧s.2.sure=zeroSt∧(s.2.l.m.ver:Int)=v:=by
 obtain⟨s,h1,h2,h3,h4,h5,h6⟩:=SoRm.start hv size 300000 M (by omega) hM
 refine⟨s,h1,⟨⟨_,_,h2⟩,h6,?_⟩,h3,h4,h5⟩
 have ho:=created_ops (v:=v) (size:=size) (d:=dNew 300000)
 have e:s.1=(createD v size (dNew 300000)).1:=by
  have:=congrArg Prod.fst h1
  rw [← this]
  unfold createS
  cases (createD v size (dNew 300000)).2.1 <;> rfl
 rw [e]
 rw [dNew_ops] at ho
 omega
section
variable {W:World}
def SuRel (sb lb bd stb wb n:Nat) (W:World) (i:Value) (wr:World):Prop:=
 ∃ (k:Nat) (s:SD) (A:Option Addr) (a:Nat) (D:Option Addr) (d:Nat) (F:Option Addr) (f:Nat),k≤n∧i=.int .i64 k∧SuSt 61 k (sized 300) s∧In [] W wr (SoL sb lb bd stb s [Cells wb #[.int .i64 s.2.sure.gen,.slice A s.2.sure.bks.length a,.slice D s.2.sure.drs.length d,.slice F s.2.sure.fls.length f] 59,BkR (.slice A s.2.sure.bks.length a) s.2.sure.bks,DrR (.slice D s.2.sure.drs.length d) s.2.sure.drs,FlR (.slice F s.2.sure.fls.length f) s.2.sure.fls])
end
section
variable {P:Program} {kt et mt:TypeId}
def pV (a:Nat):Value:=.pointer (some ⟨a,0,none⟩)
def LiveB (w:World) (a:Nat):Prop:=∃ C t,w.heap[a]?=some (.cells C t (0,0))
theorem eqp1 (d:Nat) {i:TypeInfo} (hk:P.underlying kt=some (.pointer et)) (hte:P.info? et=some i) (hsz:i.size≠0) (w:World) {a b:Nat} (ha:LiveB w a) (hb:LiveB w b) :
  (Op.equalIn (d+1) kt (pV a) (pV b)).run P w=.ok (decide (a=b)) w:=by
 obtain⟨Ca,ta,ha⟩:=ha
 obtain⟨Cb,tb,hb⟩:=hb
 unfold pV
 by_cases h:a=b
 ·subst h
  simp [Op.equalIn,run_underlying hk,sizeOf,typeInfo,hte,hsz,run_sameAddr_same]
 ·have hn:(⟨a,0,none⟩:Addr)≠⟨b,0,none⟩:=fun e=>h (by cases e;rfl)
  have hh:=run_sameAddr_other (P:=P) w hn ha hb
  simp [Op.equalIn,run_underlying hk,sizeOf,typeInfo,hte,hsz,h,hh]
theorem eqp {i:TypeInfo} (hk:P.underlying kt=some (.pointer et)) (hte:P.info? et=some i) (hsz:i.size≠0) (w:World) {a b:Nat} (ha:LiveB w a) (hb:LiveB w b) :
  (Op.equal kt (pV a) (pV b)).run P w=.ok (decide (a=b)) w:=eqp1 9999 hk hte hsz w ha hb
theorem eqp_nil1 (d:Nat) (hk:P.underlying kt=some (.pointer et)) (w:World) (b:Nat):(Op.equalIn (d+1) kt (.pointer none) (pV b)).run P w=.ok false w:=by
 unfold pV
 simp [Op.equalIn,run_underlying hk]
theorem eqp_nil (hk:P.underlying kt=some (.pointer et)) (w:World) (b:Nat):(Op.equal kt (.pointer none) (pV b)).run P w=.ok false w:=eqp_nil1 9999 hk w b
theorem ask_p {i:TypeInfo} (hk:P.underlying kt=some (.pointer et)) (hte:P.info? et=some i) (hsz:i.size≠0) (w:World) {a:Nat} (ha:LiveB w a):∀ (es:List MapEntry) (T:List (Nat×Nat)) (n:Nat),
  es.map (fun e=>(e.key,e.val))=T.map (fun x=>(pV x.1,pV x.2))→(∀ x∈T,LiveB w x.1) →
  (∃ x∈T,∃ j,x.1=a∧(Instr.findAsking kt (pV a) es n).run P w=.ok (some (j,pV x.2)) w)∨((∀ x∈T,x.1≠a)∧(Instr.findAsking kt (pV a) es n).run P w=.ok none w)
 | [],T,n,h,hl=>by
  cases T with
  | nil=>exact Or.inr ⟨by simp,by simp [Instr.findAsking]⟩
  | cons x r=>simp at h
 | e::es,[],n,h,hl=>by simp at h
 | e::es,x::r,n,h,hl=>by
  simp only [List.map_cons,List.cons.injEq,Prod.mk.injEq] at h
  obtain⟨⟨h1,h2⟩,h3⟩:=h
  have he:=eqp hk hte hsz w ha (hl x (by simp))
  by_cases hx:x.1=a
  ·left
   refine⟨x,by simp,n,hx,?_⟩
   rw [decide_eq_true hx.symm] at he
   simp [Instr.findAsking,h1,he,h2]
  ·rw [decide_eq_false (fun h=>hx h.symm)] at he
   rcases ask_p hk hte hsz w ha es r (n+1) h3 (fun y hy=>hl y (by simp [hy])) with ⟨y,hy,j,e1,e2⟩|⟨e1,e2⟩
   ·left
    refine⟨y,by simp [hy],j,e1,?_⟩
    simp [Instr.findAsking,h1,he,e2]
   ·right
    refine⟨fun y hy=>?_,?_⟩
    ·rcases List.mem_cons.1 hy with rfl | hy
     ·exact hx
     ·exact e1 y hy
    ·simp [Instr.findAsking,h1,he,e2]
theorem ask_nil (hk:P.underlying kt=some (.pointer et)) (w:World):∀ (es:List MapEntry) (T:List (Nat×Nat)) (n:Nat),
  es.map (fun e=>(e.key,e.val))=T.map (fun x=>(pV x.1,pV x.2))→(Instr.findAsking kt (.pointer none) es n).run P w=.ok none w
 | [],T,n,h=>by simp [Instr.findAsking]
 | e::es,[],n,h=>by simp at h
 | e::es,x::r,n,h=>by
  simp only [List.map_cons,List.cons.injEq,Prod.mk.injEq] at h
  simp [Instr.findAsking,h.1.1,eqp_nil hk w,ask_nil hk w es r (n+1) h.2]
theorem now_p (hk:P.underlying kt=some (.pointer et)) (w:World) (v:Value) (es:List MapEntry):(Instr.findKey kt v es).run P w=(Instr.findAsking kt v es).run P w:=by
 cases es with
 | nil=>simp [Instr.findKey,run_underlying hk,Instr.findNow,Instr.findAsking]
 | cons e r=>
  have:Instr.findNow (.pointer et) v (e::r) 0=none:=by
   unfold Instr.findNow Instr.sameNow
   rfl
  simp [Instr.findKey,run_underlying hk,this]
theorem check_p1 (d:Nat) (hk:P.underlying kt=some (.pointer et)) (w:World) (em:Bool) (p:Option Addr):(Instr.checkKey em (d+1) kt (.pointer p)).run P w=.ok () w:=by
 simp [Instr.checkKey,run_underlying hk]
theorem check_p (hk:P.underlying kt=some (.pointer et)) (w:World) (em:Bool) (p:Option Addr):(Instr.checkKey em 10000 kt (.pointer p)).run P w=.ok () w:=check_p1 9999 hk w em p
def PTab (b:Nat) (T:List (Nat×Nat)):Asrt:=fun w F=>F=[b]∧∃ es clock,w.heap[b]?=some (.map es clock)∧es.toList.map (fun e=>(e.key,e.val))=T.map (fun x=>(pV x.1,pV x.2))
theorem PTab.framed (b:Nat) (T:List (Nat×Nat)):Framed (PTab b T):=
 ⟨fun h hk=>by
  obtain⟨h1,es,clock,h2,h3⟩:=h
  exact⟨h1,es,clock,by rw [hk b (by rw [h1];simp)];exact h2,h3⟩,fun h b' hb=>by
  obtain⟨h1,es,clock,h2,h3⟩:=h
  rw [h1] at hb;simp at hb;subst hb
  exact hp_lt h2⟩
variable {F0:List Nat} {w0 w:World} {R:List Asrt} {b:Nat} {T:List (Nat×Nat)}
theorem pt_make (h:In F0 w0 w R):In F0 w0 (w.alloc (.map #[] 0)) (PTab w.heap.size []::R):=by
 obtain⟨F,hs,hF⟩:=h.star
 have fr:=Framed.star h.framed
 refine⟨fun B hB=>?_,⟨[w.heap.size]++F,⟨[w.heap.size],F,⟨rfl,#[],0,hp_alloc_new,rfl⟩,fr.keep hs (fun b hb=>hp_alloc_old (fr.lt hs b hb)),?_,rfl⟩,?_⟩,h.mod.alloc _⟩
 ·rcases List.mem_cons.1 hB with rfl | hB
  ·exact PTab.framed _ _
  ·exact h.framed B hB
 ·intro b hb hbF
  simp at hb;subst hb
  exact absurd (fr.lt hs _ hbF) (by omega)
 ·intro b hb
  simp at hb
  rcases hb with rfl | hb
  ·exact Or.inr h.mod.size
  ·exact hF b hb
theorem pt_look {i:TypeInfo} (hk:P.underlying kt=some (.pointer et)) (hte:P.info? et=some i) (hsz:i.size≠0) (hmt:P.underlying mt=some (.map kt kt)) (hz:(zeroValue kt).run P w=.ok (.pointer none) w) (h:In F0 w0 w R) (n:Nat) (hA:R[n]?=some (PTab b T)) (hl:∀ x∈T,LiveB w x.1) {a:Nat} (ha:LiveB w a) :
  (∃ x∈T,x.1=a∧(Instr.lookup mt (.map (some b)) (pV a) false).run P w=.ok (pV x.2) w)∨((∀ x∈T,x.1≠a)∧(Instr.lookup mt (.map (some b)) (pV a) false).run P w=.ok (.pointer none) w):=by
 obtain⟨F,hF,es,clock,h2,h3⟩:=h.get n hA
 have hc:=check_p hk w es.isEmpty (some ⟨a,0,none⟩)
 rcases ask_p hk hte hsz w ha es.toList T 0 h3 hl with ⟨x,hx,j,e1,e2⟩|⟨e1,e2⟩
 ·refine Or.inl ⟨x,hx,e1,?_⟩
  rw [← now_p hk] at e2
  unfold pV at *
  simp [Instr.lookup,run_underlying hmt,Go.MapKept.run_getObj_map h2,hc,e2]
 ·refine Or.inr ⟨e1,?_⟩
  rw [← now_p hk] at e2
  unfold pV at *
  simp [Instr.lookup,run_underlying hmt,Go.MapKept.run_getObj_map h2,hc,e2,hz]
theorem pt_nil (hk:P.underlying kt=some (.pointer et)) (hmt:P.underlying mt=some (.map kt kt)) (hz:(zeroValue kt).run P w=.ok (.pointer none) w) (h:In F0 w0 w R) (n:Nat) (hA:R[n]?=some (PTab b T)):(Instr.lookup mt (.map (some b)) (.pointer none) false).run P w=.ok (.pointer none) w:=by
 obtain⟨F,hF,es,clock,h2,h3⟩:=h.get n hA
 have hc:=check_p hk w es.isEmpty none
 have e2:=ask_nil hk w es.toList T 0 h3
 rw [← now_p hk] at e2
 simp [Instr.lookup,run_underlying hmt,Go.MapKept.run_getObj_map h2,hc,e2,hz]
theorem pt_put {i:TypeInfo} (hk:P.underlying kt=some (.pointer et)) (hte:P.info? et=some i) (hsz:i.size≠0) (hmt:P.underlying mt=some (.map kt kt)) (hz:(zeroValue kt).run P w=.ok (.pointer none) w) (h:In F0 w0 w R) (n:Nat) (hA:R[n]?=some (PTab b T)) (hl:∀ x∈T,LiveB w x.1) {a:Nat} (ha:LiveB w a) (hno:∀ x∈T,x.1≠a) (v:Nat) :
  ∃ w',(Instr.mapUpdate mt (.map (some b)) (pV a) (pV v)).run P w=.ok () w'∧In F0 w0 w' (R.set n (PTab b (T++[(a,v)])))∧(a≠b∧Turn b w w'):=by
 obtain⟨F,hF,es,clock,h2,h3⟩:=h.get n hA
 have hc:=check_p hk w false (some ⟨a,0,none⟩)
 rcases ask_p hk hte hsz w ha es.toList T 0 h3 hl with ⟨x,hx,j,e1,e2⟩|⟨e1,e2⟩
 ·exact absurd e1 (hno x hx)
 ·rw [← now_p hk] at e2
  have hs:=heap_set (o':=.map (es.push { key:=pV a,val:=pV v,born:=clock }) (clock+1)) h2
  refine⟨setBlock w b (.map (es.push { key:=pV a,val:=pV v,born:=clock }) (clock+1)),?_,h.step n hA (PTab.framed _ _) (fun F' hF'=>⟨F',⟨hF'.1,_,_,hs.1,?_⟩,Grew.refl _ _,?_⟩),?_,turn_setBlock h2⟩
  ·unfold pV at *
   simp [Instr.mapUpdate,run_underlying hmt,Go.MapKept.run_getObj_map h2,hc,e2,Go.MapKept.run_setObj_map _ h2]
   rfl
  ·rw [Array.toList_push,List.map_append,List.map_append,h3];rfl
  ·rw [hF'.1];exact (turn_setBlock h2).mod
  ·rintro rfl
   obtain⟨C,t,hc⟩:=ha
   rw [h2] at hc;cases hc
end
section
variable {F0:List Nat} {w0 w:World} {R:List Asrt} {bt gt a:Nat} {T:List (Nat×Nat)} {f:FileD}
theorem fileLive (h:In F0 w0 w R) (i:Nat) (hA:R[i]?=some (FileA a f)):LiveB w a:=by
 rcases file_at' h i hA with ⟨h1,_⟩|⟨_,_,h1,_⟩
 ·exact⟨_,_,h1⟩
 ·exact⟨_,_,h1⟩
def CopiedPost (f:FileD) (a bt gt:Nat) (T:List (Nat×Nat)) (F0:List Nat) (w0:World) (R:List Asrt) (e:Ending) (w':World):Prop:=
 (∃ x∈T,x.1=a∧e=.returned (pV x.2)∧In F0 w0 w' (PTab bt T::Cells gt #[.map (some bt)] 79::R)) ∨
 ((∀ x∈T,x.1≠a)∧∃ a',e=.returned (pV a')∧In F0 w0 w' (FileA a' f::PTab bt (T++[(a,a')])::Cells gt #[.map (some bt)] 79::R))
theorem pfSize:∃ i,Tryz.prog.info? 83=some i∧i.size≠0:=by
 have h:(match Tryz.prog.info? 83 with | some i=>decide (i.size≠0) | none=>false)=true:=by kernel_rfl
 cases e:Tryz.prog.info? 83 with
 | none=>rw [e] at h;cases h
 | some i=>rw [e] at h;exact⟨i,rfl,of_decide_eq_true h⟩
theorem o_copied (h:In F0 w0 w (PTab bt T::Cells gt #[.map (some bt)] 79::R)) (i:Nat) (hA:R[i]?=some (FileA a f)) (hT:∀ x∈T,∃ (j:Nat) (f':FileD),R[j]?=some (FileA x.1 f')) (hl:f.b.length≤100000000) :
  Calls Tryz.prog 29 #[pV a,.pointer (some ⟨gt,0,none⟩)] w (CopiedPost f a bt gt T F0 w0 R):=by
 obtain⟨fi,hfi,hsz⟩:=pfSize
 have hz:∀ w,(zeroValue 80).run Tryz.prog w=.ok (.pointer none) w:=fun w=>by kernel_rfl
 have HLV:Hid (∀ (P1:List Asrt) w',In F0 w0 w' (P1++R)→(∀ x∈T,LiveB w' x.1)∧LiveB w' a):=Lib.hid (fun P1 w' h'=>⟨fun x hx=>by
  obtain⟨j,f',hj⟩:=hT x hx
  exact fileLive h' (P1.length+j) (by rw [List.getElem?_append_right (by omega)];simpa using hj),fileLive h' (P1.length+i) (by rw [List.getElem?_append_right (by omega)];simpa using hA)⟩)
 have hlv:=HLV.out [_,_] w h
 have cg:w.cell? ⟨gt,0,none⟩=some (.map (some bt)):=cell_of (h.block 1 rfl) rfl
 rcases pt_look Tryz.underlying80 hfi hsz Tryz.underlying79 (hz w) h 0 rfl hlv.1 hlv.2 with ⟨x,hx,hxa,hlk⟩|⟨hno,hlk⟩
 ·have E:Hid (CopiedPost f a bt gt T F0 w0 R (.returned (pV x.2)) w):=Lib.hid (Or.inl ⟨x,hx,hxa,rfl,h⟩)
  unfold pV at *
  clear h hA hT HLV hlv hx hxa hl
  go_enter Tryz.func29,Tryz.ntmps29
  go_wp2_with fail
  go_ret
  exact E.out
 ·obtain⟨v0,hv0⟩:=h.file (i+2) hA
  have hiR:=(List.getElem?_eq_some_iff.1 hA).1
  have hv:In F0 w0 w (RowA 5 1 v0 f.b.length (u8s f.b)::PTab bt T::Cells gt #[.map (some bt)] 79::R.set i (Cells a #[v0,.int .i64 f.sure] 83)):=hv0
  obtain⟨Fv,hrv⟩:=hv.get 0 rfl
  obtain⟨A,c,rfl,-,-,-⟩:=hrv.shape
  have hn1:A=none→c=0∧f.b=[]:=fun e=>by
   obtain⟨_,_,h2⟩:=hrv
   rcases h2 with ⟨e1,e2⟩|⟨g,cc,cur,e1,_⟩
   ·exact⟨(Value.slice.inj e1).2.2,List.length_eq_zero_iff.1 e2⟩
   ·rw [e] at e1;exact absurd (Value.slice.inj e1).1 (by simp)
  obtain⟨Fd,hrd⟩:=(hv.drewN 1).get 0 rfl
  have hs1:Src (w.drewN 1) A f.b.length 1 (u8s f.b):=hrd.all
  have hb1:w.heap[a]?=some (.cells #[.slice A f.b.length c,.int .i64 f.sure] 83 (0,0)):=hv.block (i+3) (by simp [hiR])
  have HB:Hid (∀ w1 v,In F0 w0 w1 (RowA 5 1 v f.b.length (u8s f.b)::RowA 5 1 (.slice A f.b.length c) f.b.length (u8s f.b)::PTab bt T::Cells gt #[.map (some bt)] 79::R.set i (Cells a #[.slice A f.b.length c,.int .i64 f.sure] 83))→w1.heap[a]?=some (.cells #[.slice A f.b.length c,.int .i64 f.sure] 83 (0,0))∧In F0 w0 w1 (RowA 5 1 v f.b.length (u8s f.b)::PTab bt T::Cells gt #[.map (some bt)] 79::R)):=Lib.hid (fun w1 v h1=>by
   refine⟨h1.block (i+4) (by simp [hiR]),?_⟩
   have h2:=In.unfile (f:=f) (h1.sel2 (R1:=[_,_]) [1,0] (by decide) rfl) (i+3) (a:=a) (by simp [hiR])
   have e:(R.set i (Cells a #[.slice A f.b.length c,.int .i64 f.sure] 83)).set i (FileA a f)=R:=by
    rw [List.set_set]
    obtain⟨hi',e'⟩:=List.getElem?_eq_some_iff.1 hA
    rw [← e']
    exact List.set_getElem_self hi'
   have h3:In F0 w0 w1 (RowA 5 1 v f.b.length (u8s f.b)::PTab bt T::Cells gt #[.map (some bt)] 79::(R.set i (Cells a #[.slice A f.b.length c,.int .i64 f.sure] 83)).set i (FileA a f)):=h2
   rw [e] at h3
   exact h3)
  have c0:w.cell? ⟨a,0,none⟩=some (.slice A f.b.length c):=cell_of hb1 rfl
  have c1:w.cell? ⟨a,1,none⟩=some (.int .i64 f.sure):=cell_of hb1 rfl
  have KC:=Lib.hid (o_clone (c:=c) (hv.drewN 1) hn1 hs1 hl)
  have HP:Hid (∀ w1 v,In F0 w0 w1 (RowA 5 1 v f.b.length (u8s f.b)::RowA 5 1 (.slice A f.b.length c) f.b.length (u8s f.b)::PTab bt T::Cells gt #[.map (some bt)] 79::R.set i (Cells a #[.slice A f.b.length c,.int .i64 f.sure] 83))→w1.cell? ⟨a,0,none⟩=some (.slice A f.b.length c)∧w1.cell? ⟨a,1,none⟩=some (.int .i64 f.sure)∧w1.cell? ⟨gt,0,none⟩=some (.map (some bt))∧∃ w3,(Instr.mapUpdate 79 (.map (some bt)) (pV a) (pV w1.heap.size)).run Tryz.prog (w1.alloc (.cells #[v,.int .i64 f.sure] 83))=.ok () w3∧(w3.cell? ⟨gt,0,none⟩=some (.map (some bt))∧w3.cell? ⟨a,0,none⟩=some (.slice A f.b.length c)∧w3.cell? ⟨a,1,none⟩=some (.int .i64 f.sure)) ∧
    (Instr.lookup 79 (.map (some bt)) (pV a) false).run Tryz.prog w3=.ok (pV w1.heap.size) w3∧CopiedPost f a bt gt T F0 w0 R (.returned (pV w1.heap.size)) w3):=Lib.hid (fun w1 v h1=>by
   obtain⟨e1,h1⟩:=HB.out w1 v h1
   have h2:=(h1.cells #[v,.int .i64 f.sure] 83).sel2 (R1:=[_,_,_,_]) (R2:=R) [1,0,2,3] (by decide) rfl
   have h3:In F0 w0 (w1.alloc (.cells #[v,.int .i64 f.sure] 83)) (FileA w1.heap.size f::PTab bt T::Cells gt #[.map (some bt)] 79::R):=In.unfile (v:=v) (f:=f) h2 0 rfl
   have hl3:=HLV.out [_,_,_] _ h3
   obtain⟨w3,k1,k2,k4,k5⟩:=pt_put Tryz.underlying80 hfi hsz Tryz.underlying79 (hz _) h3 1 rfl hl3.1 hl3.2 hno w1.heap.size
   have k3:In F0 w0 w3 (FileA w1.heap.size f::PTab bt (T++[(a,w1.heap.size)])::Cells gt #[.map (some bt)] 79::R):=k2
   have e3:w3.heap[a]?=some (.cells #[.slice A f.b.length c,.int .i64 f.sure] 83 (0,0)):=(k5.block a k4).trans ((hp_alloc_old (hp_lt e1)).trans e1)
   have hl4:=HLV.out [_,_,_] _ k3
   refine⟨cell_of e1 rfl,cell_of e1 rfl,cell_of (h1.block 2 rfl) rfl,w3,k1,⟨cell_of (k3.block 2 rfl) rfl,cell_of e3 rfl,cell_of e3 rfl⟩,?_,Or.inr ⟨hno,_,rfl,k3⟩⟩
   rcases pt_look Tryz.underlying80 hfi hsz Tryz.underlying79 (hz w3) k3 1 rfl (fun x hx=>by
    rcases List.mem_append.1 hx with hx | hx
    ·exact hl4.1 x hx
    ·simp at hx;subst hx;exact hl4.2) hl4.2 with ⟨x,hx,hxa,hlk3⟩|⟨hno3,_⟩
   ·rcases List.mem_append.1 hx with hx | hx
    ·exact absurd hxa (hno x hx)
    ·simp at hx;subst hx;exact hlk3
   ·exact absurd rfl (hno3 (a,w1.heap.size) (by simp)))
  unfold pV at *
  clear h hA hT HLV hlv hl hno hs1 hn1 hb1 hv0 hv hrv hiR hrd
  go_enter Tryz.func29,Tryz.ntmps29
  go_wp2_with fail
  go_region_held3 (fun w'=>w'.cell? ⟨gt,0,none⟩=some (.map (some bt))∧w'.cell? ⟨a,0,none⟩=some (.slice A f.b.length c)∧w'.cell? ⟨a,1,none⟩=some (.int .i64 f.sure)) (first | exact⟨cg,c0,c1⟩ | exact hc1 | exact p4 | go_keep) ((go_at_call 30;refine KC.out.mono ?_;rintro e w1 ⟨v,rfl,h1⟩;obtain⟨Fq,hq⟩:=h1.get 0 rfl;obtain⟨A2,c2,rfl,-,-,-⟩:=hq.shape;obtain⟨p0,p1,p2,w3,p3,p4,p5,p6⟩:=HP.out w1 _ h1;have hc1:=And.intro p2 (And.intro p0 p1)))
  go_wp2_with fail
  go_ret
  exact p6
end
def mapN (S:List Nat) (N:NmL):NmL:=N.map (fun x=>(x.1,S.idxOf x.2))
def mapC (S:List Nat):ChgD→ChgD
 | .made n f=>.made n (S.idxOf f)
 | .ren a b=>.ren a b
 | .rem n=>.rem n
def NmIn (S:List Nat) (N:NmL):Prop:=∀ x∈N,x.2∈S
def ChIn (S:List Nat):ChgD→Prop
 | .made _ f=>f∈S
 | _=>True
theorem mapN_at {S:List Nat} {N:NmL} {n:ByteArray}:nmAt (mapN S N) n=(nmAt N n).map S.idxOf:=by
 unfold nmAt mapN
 rw [List.find?_map,Option.map_map,Option.map_map];rfl
theorem mapN_del {S:List Nat} {N:NmL} {n:ByteArray}:nmDel (mapN S N) n=mapN S (nmDel N n):=by
 unfold nmDel mapN
 rw [List.filter_map];rfl
theorem mapN_ins {S:List Nat} {n:ByteArray} {f:Nat}:∀ {N:NmL},nmIns n (S.idxOf f) (mapN S N)=mapN S (nmIns n f N)
 | []=>rfl
 | x::r=>by
  show (if nlt n x.1 then _ else _)=mapN S (if nlt n x.1 then _ else _)
  split
  ·rfl
  ·show (x.1,S.idxOf x.2)::nmIns n (S.idxOf f) (mapN S r)=(x.1,S.idxOf x.2)::mapN S (nmIns n f r)
   rw [mapN_ins]
theorem mapN_put {S:List Nat} {N:NmL} {n:ByteArray} {f:Nat}:nmPut (mapN S N) n (S.idxOf f)=mapN S (nmPut N n f):=by
 unfold nmPut
 rw [mapN_del,mapN_ins]
theorem mapN_do {S:List Nat} {N:NmL} {c:ChgD}:nmDo (mapN S N) (mapC S c)=mapN S (nmDo N c):=by
 cases c with
 | made n f=>exact mapN_put
 | rem n=>exact mapN_del
 | ren a b=>
  show (match nmAt (mapN S N) a with | some f=>nmDel (nmPut (mapN S N) b f) a | none=>mapN S N)=mapN S (match nmAt N a with | some f=>nmDel (nmPut N b f) a | none=>N)
  rw [mapN_at]
  cases nmAt N a with
  | none=>rfl
  | some f=>
   show nmDel (nmPut (mapN S N) b (S.idxOf f)) a=mapN S (nmDel (nmPut N b f) a)
   rw [mapN_put,mapN_del]
theorem NmIn.do {S:List Nat} {N:NmL} (h:NmIn S N) {c:ChgD} (hc:ChIn S c):NmIn S (nmDo N c):=by
 cases c with
 | made n f=>
  intro x hx
  rcases nmPut_mem.1 hx with rfl | ⟨hx,_⟩
  ·exact hc
  ·exact h x hx
 | rem n=>exact fun x hx=>h x (nmDel_mem.1 hx).1
 | ren a b=>
  show NmIn S (match nmAt N a with | some f=>nmDel (nmPut N b f) a | none=>N)
  cases e:nmAt N a with
  | none=>exact h
  | some f=>
   intro x hx
   rcases nmPut_mem.1 (nmDel_mem.1 hx).1 with rfl | ⟨hx,_⟩
   ·exact h (a,f) (nmAt_mem e)
   ·exact h x hx
theorem idx_inj {S:List Nat} {a b:Nat} (ha:a∈S) (hb:b∈S) (h:S.idxOf a=S.idxOf b):a=b:=by
 have h1:=List.getElem_idxOf (List.idxOf_lt_length_of_mem ha)
 have h2:=List.getElem_idxOf (List.idxOf_lt_length_of_mem hb)
 rw [← h1,← h2]
 congr 1
theorem nodup_on {f:Nat→Nat}:∀ {L:List Nat},L.Nodup→(∀ a∈L,∀ b∈L,f a=f b→a=b)→(L.map f).Nodup
 | [],_,_=>List.nodup_nil
 | x::r,h,hf=>by
  obtain⟨h1,h2⟩:=List.nodup_cons.1 h
  rw [List.map_cons]
  refine List.nodup_cons.2 ⟨fun hm=>?_,nodup_on h2 (fun a ha b hb=>hf a (List.mem_cons_of_mem _ ha) b (List.mem_cons_of_mem _ hb))⟩
  obtain⟨y,hy,e⟩:=List.mem_map.1 hm
  exact h1 (hf x (by simp) y (List.mem_cons_of_mem _ hy) e.symm ▸ hy)
theorem mapN_ok {S:List Nat} {N:NmL} {k:Nat} (h:NmOk N k) (hi:NmIn S N):NmOk (mapN S N) S.length:=by
 refine⟨List.pairwise_map.2 h.row,?_,?_,?_,by unfold mapN;rw [List.length_map];exact h.few⟩
 ·have e:(mapN S N).map (·.2)=(N.map (·.2)).map S.idxOf:=by unfold mapN;rw [List.map_map,List.map_map];rfl
  rw [e]
  refine nodup_on h.ids fun a ha b hb hab=>?_
  obtain⟨x,hx,rfl⟩:=List.mem_map.1 ha
  obtain⟨y,hy,rfl⟩:=List.mem_map.1 hb
  exact idx_inj (hi x hx) (hi y hy) hab
 ·intro x hx
  obtain⟨y,hy,rfl⟩:=List.mem_map.1 hx
  exact List.idxOf_lt_length_of_mem (hi y hy)
 ·intro x hx
  obtain⟨y,hy,rfl⟩:=List.mem_map.1 hx
  exact h.named y hy
theorem mapHist {S:List Nat} {M:NmL} {k:Nat}:∀ {l:List ChgD} {N:NmL},Hist N l M k→NmIn S N→(∀ c∈l,ChIn S c)→Hist (mapN S N) (l.map (mapC S)) (mapN S M) S.length
 | [],N,h,hi,_=>⟨by rw [h.1],mapN_ok h.2 hi⟩
 | c::r,N,h,hi,hc=>by
  obtain⟨h1,h2,h3⟩:=h
  refine⟨mapN_ok h1 hi,fun a b e=>?_,?_⟩
  ·cases c with
   | made n f=>cases e
   | rem n=>cases e
   | ren x y=>
    cases e
    obtain⟨k1,f,k2⟩:=h2 a b rfl
    exact⟨k1,S.idxOf f,by rw [mapN_at,k2];rfl⟩
  ·rw [mapN_do]
   exact mapHist h3 (hi.do (hc c (by simp))) (fun c' hc'=>hc c' (by simp [hc']))
theorem nodup_count:∀ {n:Nat} {L:List Nat},L.Nodup→(∀ j∈L,j < n)→L.length≤n
 | 0,L,_,h=>by
  cases L with
  | nil=>simp
  | cons x r=>exact absurd (h x (by simp)) (by omega)
 | n+1,L,hn,h=>by
  have h1:=nodup_count (n:=n) (L:=L.filter (fun x=>decide (x≠n))) (hn.sublist List.filter_sublist) (fun j hj=>by
   obtain⟨k1,k2⟩:=List.mem_filter.1 hj
   have:=h j k1
   have:=of_decide_eq_true k2
   omega)
  have h2:L.length≤(L.filter (fun x=>decide (x≠n))).length+1:=by
   clear h h1
   induction L with
   | nil=>simp
   | cons x r ih=>
    obtain⟨k1,k2⟩:=List.nodup_cons.1 hn
    by_cases e:x=n
    ·subst e
     have:r.filter (fun y=>decide (y≠x))=r:=List.filter_eq_self.2 (fun y hy=>by
      simp;rintro rfl;exact k1 hy)
     rw [List.filter_cons_of_neg (by simp),this];simp
    ·rw [List.filter_cons_of_pos (by simpa using e)]
     have:=ih k2
     simp only [List.length_cons];omega
  omega
def dCopy (S:List Nat) (d:DiskD):DiskD:=⟨d.quota,S.map (fun j=>d.files.getD j default),mapN S d.now,mapN S d.sure,d.ch.map (mapC S),d.ops,d.fail⟩
theorem dCopy_ok {S:List Nat} {d:DiskD} (h:DiskOk d) (hS:S.Nodup) (hl:∀ j∈S,j < d.files.length) (h2:NmIn S d.sure) (h4:∀ c∈d.ch,ChIn S c):DiskOk (dCopy S d):=by
 refine⟨h.quota,?_,?_,?_,?_,h.fail,?_⟩
 ·intro f hf
  obtain⟨j,hj,rfl⟩:=List.mem_map.1 hf
  have hj':=hl j hj
  rw [List.getD_eq_getElem?_getD,List.getElem?_eq_getElem hj']
  exact h.file _ (List.getElem_mem hj')
 ·have:=mapHist (S:=S) h.hist h2 h4
  simpa [dCopy] using this
 ·show (d.ch.map (mapC S)).length≤d.ops
  rw [List.length_map];exact h.chops
 ·show (S.map _).length≤d.ops
  rw [List.length_map]
  have:=nodup_count hS hl
  have:=h.fops
  omega
 ·intro n hn
  obtain⟨c,hc,e⟩:=List.mem_map.1 hn
  cases c with
  | made _ _=>cases e
  | ren _ _=>cases e
  | rem m=>cases e;exact h.rems n hc
theorem dCopy_read {S:List Nat} {d:DiskD} (h:NmIn S d.now) (n:ByteArray):dRead (dCopy S d) n=dRead d n:=by
 unfold dRead
 show (nmAt (mapN S d.now) n).map _=_
 rw [mapN_at,Option.map_map]
 cases e:nmAt d.now n with
 | none=>rfl
 | some i=>
  have hi:=h _ (nmAt_mem e)
  have hlt:=List.idxOf_lt_length_of_mem hi
  have e2:(S.map (fun j=>d.files.getD j default)).getD (S.idxOf i) default=d.files.getD i default:=by
   rw [List.getD_eq_getElem?_getD,List.getElem?_map,List.getElem?_eq_getElem hlt,List.getElem_idxOf];rfl
  show some ((S.map (fun j=>d.files.getD j default)).getD (S.idxOf i) default).b=some (d.files.getD i default).b
  rw [e2]
theorem dCopy_names {S:List Nat} {d:DiskD}:dNames (dCopy S d)=dNames d:=by
 unfold dNames
 show (mapN S d.now).map _=_
 unfold mapN
 rw [List.map_map];rfl
structure CpSt (n:Nat) (S na:List Nat):Prop where
 nodup:S.Nodup
 lt:∀ j∈S,j < n
 len:na.length=S.length
def tabOf (ads S na:List Nat):List (Nat×Nat):=List.zipWith (fun j a=>(ads.getD j 0,a)) S na
def NewR (fs:List FileD) (S na:List Nat):List Asrt:=filesR na (S.map fun j=>fs.getD j default)
def GrewSt (S na S' na':List Nat):Prop:=∃ t u,S'=S++t∧na'=na++u∧t.length=u.length
theorem GrewSt.refl (S na:List Nat):GrewSt S na S na:=⟨[],[],by simp,by simp,rfl⟩
theorem GrewSt.mem {S na S' na':List Nat} (h:GrewSt S na S' na') {j:Nat} (hj:j∈S):j∈S':=by
 obtain⟨t,u,rfl,_⟩:=h;exact List.mem_append_left _ hj
theorem GrewSt.idx {S na S' na':List Nat} (h:GrewSt S na S' na') {j:Nat} (hj:j∈S):S'.idxOf j=S.idxOf j:=by
 obtain⟨t,u,rfl,_⟩:=h;rw [List.idxOf_append,if_pos hj]
theorem GrewSt.ptr {S na S' na':List Nat} (h:GrewSt S na S' na') (hl:na.length=S.length) {j:Nat} (hj:j∈S):ptrAt na' (S'.idxOf j)=ptrAt na (S.idxOf j):=by
 rw [h.idx hj]
 obtain⟨t,u,_,rfl,_⟩:=h
 have hlt:=List.idxOf_lt_length_of_mem hj
 unfold ptrAt
 rw [List.getD_eq_getElem?_getD,List.getD_eq_getElem?_getD,List.getElem?_append_left (by omega)]
theorem tabOf_mem {ads S na:List Nat} (hl:na.length=S.length) {x:Nat×Nat}:x∈tabOf ads S na↔∃ k,∃ h:k < S.length,x=(ads.getD S[k] 0,na.getD k 0):=by
 unfold tabOf
 rw [List.mem_iff_getElem?]
 constructor
 ·rintro ⟨k,hk⟩
  rw [List.getElem?_zipWith] at hk
  cases e1:S[k]? with
  | none=>rw [e1] at hk;simp at hk
  | some s=>
   obtain⟨h1,h2⟩:=List.getElem?_eq_some_iff.1 e1
   have h3:na[k]?=some (na[k]'(by omega)):=List.getElem?_eq_getElem _
   rw [e1,h3] at hk
   simp at hk
   refine⟨k,h1,?_⟩
   rw [← hk,h2,List.getD_eq_getElem?_getD (l:=na),h3];simp
 ·rintro ⟨k,h1,rfl⟩
  refine⟨k,?_⟩
  have h3:na[k]?=some (na[k]'(by omega)):=List.getElem?_eq_getElem _
  rw [List.getElem?_zipWith,List.getElem?_eq_getElem h1,h3,List.getD_eq_getElem?_getD (l:=na),h3];rfl
section
variable {F0:List Nat} {w0 w:World} {X:List Asrt} {bt gt:Nat} {ads S na:List Nat} {fs:List FileD}
def StepPost (ads:List Nat) (fs:List FileD) (S na:List Nat) (j bt gt:Nat) (X:List Asrt) (F0:List Nat) (w0:World) (e:Ending) (w':World):Prop:=
 ∃ S' na',CpSt fs.length S' na'∧GrewSt S na S' na'∧j∈S'∧e=.returned (ptrAt na' (S'.idxOf j))∧In F0 w0 w' (PTab bt (tabOf ads S' na')::Cells gt #[.map (some bt)] 79::(X++NewR fs S' na'))
theorem o_cpstep (hX:∀ j,j < fs.length→∃ i:Nat,X[i]?=some (FileA (ads.getD j 0) (fs.getD j default))) (hinj:∀ i j,i < fs.length→j < fs.length→ads.getD i 0=ads.getD j 0→i=j) (hfl:∀ f∈fs,f.b.length≤1048576) (st:CpSt fs.length S na) {j:Nat} (hj:j < fs.length)
  (h:In F0 w0 w (PTab bt (tabOf ads S na)::Cells gt #[.map (some bt)] 79::(X++NewR fs S na))) :
  Calls Tryz.prog 29 #[ptrAt ads j,.pointer (some ⟨gt,0,none⟩)] w (StepPost ads fs S na j bt gt X F0 w0):=by
 have hat:∀ j,j < fs.length→∃ i:Nat,(X++NewR fs S na)[i]?=some (FileA (ads.getD j 0) (fs.getD j default)):=fun j hj=>by
  obtain⟨i,hi⟩:=hX j hj
  exact⟨i,by rw [List.getElem?_append_left (List.getElem?_eq_some_iff.1 hi).1];exact hi⟩
 obtain⟨i,hi⟩:=hat j hj
 refine (o_copied (T:=tabOf ads S na) h i hi (fun x hx=>?_) ?_).mono fun e w' hp=>?_
 ·obtain⟨k,hk,rfl⟩:=(tabOf_mem st.len).1 hx
  obtain⟨q,hq⟩:=hat S[k] (st.lt _ (List.getElem_mem hk))
  exact⟨q,_,hq⟩
 ·rw [List.getD_eq_getElem?_getD,List.getElem?_eq_getElem hj]
  have:=hfl _ (List.getElem_mem hj)
  simp only [Option.getD_some];omega
 ·rcases hp with ⟨x,hx,hxa,rfl,g⟩|⟨hno,a',rfl,g⟩
  ·obtain⟨k,hk,rfl⟩:=(tabOf_mem st.len).1 hx
   have hs:S[k]=j:=hinj _ _ (st.lt _ (List.getElem_mem hk)) hj hxa
   have hjS:j∈S:=hs ▸ List.getElem_mem hk
   have hix:S.idxOf j=k:=by
    have h1:=List.getElem_idxOf (List.idxOf_lt_length_of_mem hjS)
    exact (List.getElem_inj st.nodup).1 (h1.trans hs.symm)
   refine⟨S,na,st,GrewSt.refl _ _,hjS,?_,g⟩
   rw [hix];rfl
  ·have hjS:j ∉ S:=fun hm=>by
    obtain⟨k,hk,e⟩:=List.mem_iff_getElem.1 hm
    exact hno _ ((tabOf_mem st.len).2 ⟨k,hk,rfl⟩) (by rw [e])
   have hix:(S++[j]).idxOf j=S.length:=by
    rw [List.idxOf_append,if_neg hjS];simp
   refine⟨S++[j],na++[a'],⟨?_,?_,?_⟩,⟨[j],[a'],rfl,rfl,rfl⟩,by simp,?_,?_⟩
   ·exact List.nodup_append.2 ⟨st.nodup,by simp,fun a ha b hb=>by simp at hb;subst hb;exact fun e=>hjS (e ▸ ha)⟩
   ·intro q hq
    rcases List.mem_append.1 hq with hq | hq
    ·exact st.lt q hq
    ·simp at hq;subst hq;exact hj
   ·simp [st.len]
   ·rw [hix]
    unfold ptrAt pV
    rw [List.getD_eq_getElem?_getD,List.getElem?_append_right (by rw [st.len];exact Nat.le_refl _),st.len];simp
   ·have e1:tabOf ads (S++[j]) (na++[a'])=tabOf ads S na++[(ads.getD j 0,a')]:=by
     unfold tabOf
     rw [List.zipWith_append st.len.symm];rfl
    have e2:NewR fs (S++[j]) (na++[a'])=NewR fs S na++[FileA a' (fs.getD j default)]:=by
     unfold NewR filesR
     rw [List.map_append,List.zipWith_append (by rw [List.length_map];exact st.len)];rfl
    rw [e1,e2]
    refine g.perm ?_
    have e3:PTab bt (tabOf ads S na++[(ads.getD j 0,a')])::Cells gt #[.map (some bt)] 79::(X++(NewR fs S na++[FileA a' (fs.getD j default)]))=(PTab bt (tabOf ads S na++[(ads.getD j 0,a')])::Cells gt #[.map (some bt)] 79::(X++NewR fs S na))++[FileA a' (fs.getD j default)]:=by simp
    rw [e3]
    exact (List.perm_append_singleton _ _).symm
theorem o_cpnil {T:List (Nat×Nat)} {R:List Asrt} (h:In F0 w0 w (PTab bt T::Cells gt #[.map (some bt)] 79::R)) :
  Calls Tryz.prog 29 #[.pointer none,.pointer (some ⟨gt,0,none⟩)] w fun e w'=>e=.returned (.pointer none)∧In F0 w0 w' (PTab bt T::Cells gt #[.map (some bt)] 79::R):=by
 have hlk:=pt_nil Tryz.underlying80 Tryz.underlying79 (by kernel_rfl) h 0 rfl
 have cg:w.cell? ⟨gt,0,none⟩=some (.map (some bt)):=cell_of (h.block 1 rfl) rfl
 have H:=Lib.hid h
 clear h
 go_enter Tryz.func29,Tryz.ntmps29
 go_wp2_with fail
 go_ret
 exact⟨rfl,H.out⟩
end
section
variable {α:Type} {P:Program} {kt:TypeId} {ek ev:α→Value}
def IterN (P:Program) (kt:TypeId) (ek ev:α→Value) (b r:Nat) (L done:List α) (n:Nat):Asrt:=fun w F=>IterA P kt ek ev b r L done w F∧w.rangeLeft b r=n
theorem IterN.framed (b r:Nat) (L done:List α) (n:Nat):Framed (IterN P kt ek ev b r L done n):=
 ⟨fun h hk=>by
  refine⟨(IterA.framed b r L done).keep h.1 hk,?_⟩
  rw [← h.2]
  unfold World.rangeLeft
  rw [hk b (by rw [h.1.1];simp),hk r (by rw [h.1.1];simp)],fun h=>(IterA.framed b r L done).lt h.1⟩
variable {F0:List Nat} {w0 w:World} {R:List Asrt} {b r:Nat} {L done:List α} {n:Nat}
theorem iterN_of (h:In F0 w0 w R) (i:Nat) (hA:R[i]?=some (IterA P kt ek ev b r L done)):In F0 w0 w (R.set i (IterN P kt ek ev b r L done (w.rangeLeft b r))):=
 h.imp i hA (IterN.framed _ _ _ _ _) fun F hF=>⟨hF,rfl⟩
theorem iterN_to (h:In F0 w0 w R) (i:Nat) (hA:R[i]?=some (IterN P kt ek ev b r L done n)):w.rangeLeft b r=n∧In F0 w0 w (R.set i (IterA P kt ek ev b r L done)):=by
 obtain⟨F,hF⟩:=h.get i hA
 exact⟨hF.2,h.imp i hA (IterA.framed _ _ _ _) fun F hF=>hF.1⟩
end
section
variable {F0:List Nat} {w0 w:World} {R:List Asrt}
theorem tab_grow {S na S' na':List Nat} {b:Nat} {N:NmL} (g:GrewSt S na S' na') (hl:na.length=S.length) (hd:NmIn S N) {F:List Nat} (h:NTab b na (mapN S N) w F):NTab b na' (mapN S' N) w F:=by
 have e:mapN S' N=mapN S N:=by
  unfold mapN
  exact List.map_congr_left fun x hx=>by rw [g.idx (hd x hx)]
 rw [e]
 refine TabA.ev h fun x hx=>?_
 obtain⟨y,hy,rfl⟩:=List.mem_map.1 hx
 unfold evN
 show ptrAt na' (S.idxOf y.2)=ptrAt na (S.idxOf y.2)
 rw [← g.idx (hd y hy)]
 exact (g.ptr hl (hd y hy)).trans (by rw [g.idx (hd y hy)])
theorem ads_inj {ads:List Nat} {fs:List FileD} {R1:List Asrt} (h:In F0 w0 w (R1++filesR ads fs)) (hl:ads.length=fs.length):∀ i j,i < fs.length→j < fs.length→ads.getD i 0=ads.getD j 0→i=j:=by
 have key:∀ i j,i < j→j < fs.length→ads.getD i 0≠ads.getD j 0:=fun i j hij hj e=>by
  obtain⟨F,hs,_⟩:=h.star
  have h1:(R1++filesR ads fs)[R1.length+i]?=some (FileA (ads.getD i 0) (fs.getD i default)):=by
   rw [List.getElem?_append_right (by omega),Nat.add_sub_cancel_left];exact filesR_at hl (by omega)
  have h2:(R1++filesR ads fs)[R1.length+j]?=some (FileA (ads.getD j 0) (fs.getD j default)):=by
   rw [List.getElem?_append_right (by omega),Nat.add_sub_cancel_left];exact filesR_at hl hj
  obtain⟨F1,F2,⟨v1,G1,G2,⟨k1,_⟩,_,_,rfl⟩,⟨v2,G3,G4,⟨k2,_⟩,_,_,rfl⟩,ha,_⟩:=star_apart hs (by omega:R1.length+i < R1.length+j) h1 h2
  exact ha (ads.getD i 0) (List.mem_append_left _ (by rw [k1];simp)) (List.mem_append_left _ (by rw [k2,e];simp))
 intro i j hi hj e
 rcases Nat.lt_trichotomy i j with h1 | h1 | h1
 ·exact absurd e (key i j h1 hj)
 ·exact h1
 ·exact absurd e.symm (key j i h1 hi)
theorem cp_put {S na:List Nat} {b:Nat} {done:NmL} {y:ByteArray×Nat} (h:In F0 w0 w R) (i:Nat) (hA:R[i]?=some (NTab b na (mapN S done))) (hnd:((done++[y]).map (·.1)).Nodup) (hn:y.1.size≤maxLen) :
  ∃ w',(Instr.mapUpdate 61 (.map (some b)) (.string y.1) (ptrAt na (S.idxOf y.2))).run Tryz.prog w=.ok () w'∧In F0 w0 w' (R.set i (NTab b na (mapN S (done++[y])))):=by
 rw [List.map_append,List.nodup_append] at hnd
 obtain⟨n1,_,n3⟩:=hnd
 have e0:(mapN S done).map (·.1)=done.map (·.1):=by unfold mapN;rw [List.map_map];rfl
 have hk:((mapN S done).map ekN).Nodup:=by
  have e:(mapN S done).map ekN=((mapN S done).map (·.1)).map Value.string:=by rw [List.map_map];rfl
  rw [e,e0]
  exact n1.map Value.string (fun a b hab hc=>hab (Value.string.inj hc))
 obtain⟨w',h1,_,h2⟩:=tab_put h i hA strKey Tryz.underlying61 (y.1,S.idxOf y.2) (Go.WideMaps.keyOf_string_mk Tryz.underlying9 hn) hk (fun x=>decide (x.1≠y.1)) (fun x _=>by simp [ekN])
 have e1:(mapN S done).filter (fun x=>decide (x.1≠y.1))=mapN S done:=List.filter_eq_self.2 fun x hx=>by
  obtain⟨z,hz,rfl⟩:=List.mem_map.1 hx
  exact decide_eq_true (n3 z.1 (List.mem_map_of_mem hz) y.1 (by simp))
 rw [e1] at h2
 refine⟨w',h1,?_⟩
 have hp:(mapN S (done++[y])).Perm ((y.1,S.idxOf y.2)::mapN S done):=by
  unfold mapN
  rw [List.map_append]
  exact List.perm_append_singleton _ _
 have hlt:=(List.getElem?_eq_some_iff.1 hA).1
 have h3:=h2.imp (A:=NTab b na ((y.1,S.idxOf y.2)::mapN S done)) (A':=NTab b na (mapN S (done++[y]))) i (by rw [List.getElem?_set_self hlt]) (TabA.framed _ _) (fun F hF=>TabA.perm hF hp)
 rw [List.set_set] at h3
 exact h3
def CpL (bd bn bs:Nat) (vch:Value) (ads:List Nat) (d:DiskD) (A B:Asrt) (ob obn obs:Nat) (och:Value) (S na:List Nat) (N1 N2:NmL) (cs:List ChgD) (Z:List Asrt):List Asrt:=
 Cells bd (dkCells d bn bs vch) 64::A::B::RowA 86 4 vch d.ch.length (flatC ads d.ch)::Cells ob #[.int .i64 d.quota,.map (some obn),.map (some obs),och,.int .i64 d.ops,.int .i64 (failV d)] 64 ::
  NTab obn na (mapN S N1)::NTab obs na (mapN S N2)::RowA 86 4 och cs.length (flatC na (cs.map (mapC S)))::(Z++filesR ads d.files)
def CpAll (bt gt bd bn bs:Nat) (vch:Value) (ads:List Nat) (d:DiskD) (A B:Asrt) (ob obn obs:Nat) (och:Value) (S na:List Nat) (N1 N2:NmL) (cs:List ChgD) (Z:List Asrt):List Asrt:=
 PTab bt (tabOf ads S na)::Cells gt #[.map (some bt)] 79::(CpL bd bn bs vch ads d A B ob obn obs och S na N1 N2 cs Z++NewR d.files S na)
theorem flatC_grow {S na S' na':List Nat} (g:GrewSt S na S' na') (hl:na.length=S.length) {cs:List ChgD} (hc:∀ c∈cs,ChIn S c):flatC na' (cs.map (mapC S'))=flatC na (cs.map (mapC S)):=by
 unfold flatC
 rw [List.map_map,List.map_map]
 congr 1
 apply List.map_congr_left
 intro c hcc
 have:=hc c hcc
 cases c with
 | made n f=>simp only [Function.comp,mapC,encC,g.ptr hl this]
 | ren _ _=>rfl
 | rem _=>rfl
theorem cp_call {bt gt bd bn bs ob obn obs:Nat} {vch och:Value} {ads:List Nat} {d:DiskD} {A B:Asrt} {S na:List Nat} {N1 N2:NmL} {cs:List ChgD} {Z:List Asrt} (hok:DiskOk d) (hl:ads.length=d.files.length) (st:CpSt d.files.length S na) (h1:NmIn S N1) (h2:NmIn S N2) (h3:∀ c∈cs,ChIn S c) {j:Nat} (hj:j < d.files.length)
  (h:In F0 w0 w (CpAll bt gt bd bn bs vch ads d A B ob obn obs och S na N1 N2 cs Z)) :
  Calls Tryz.prog 29 #[ptrAt ads j,.pointer (some ⟨gt,0,none⟩)] w fun e w'=>∃ S' na',CpSt d.files.length S' na'∧GrewSt S na S' na'∧j∈S'∧e=.returned (ptrAt na' (S'.idxOf j))∧In F0 w0 w' (CpAll bt gt bd bn bs vch ads d A B ob obn obs och S' na' N1 N2 cs Z):=by
 have hinj:=ads_inj (R1:=NewR d.files S na++(PTab bt (tabOf ads S na)::Cells gt #[.map (some bt)] 79::Cells bd (dkCells d bn bs vch) 64::A::B::RowA 86 4 vch d.ch.length (flatC ads d.ch)::Cells ob #[.int .i64 d.quota,.map (some obn),.map (some obs),och,.int .i64 d.ops,.int .i64 (failV d)] 64 ::
  NTab obn na (mapN S N1)::NTab obs na (mapN S N2)::RowA 86 4 och cs.length (flatC na (cs.map (mapC S)))::Z)) (h.perm (by
   unfold CpAll CpL
   rw [List.append_assoc]
   refine List.Perm.trans ?_ List.perm_append_comm
   simp only [List.cons_append,List.nil_append,List.append_assoc]
   exact List.Perm.refl _)) hl
 refine (o_cpstep (fs:=d.files) (fun j hj=>⟨8+(Z.length+j),?_⟩) hinj (fun f hf=>(hok.file f hf).1) st hj h).mono fun e w' hp=>?_
 ·unfold CpL
  rw [show 8+(Z.length+j)=Z.length+j+1+1+1+1+1+1+1+1 by omega]
  simp only [List.getElem?_cons_succ]
  rw [List.getElem?_append_right (by omega),Nat.add_sub_cancel_left]
  exact filesR_at hl hj
 ·obtain⟨S',na',s1,s2,s3,s4,g⟩:=hp
  refine⟨S',na',s1,s2,s3,s4,?_⟩
  have g1:=(g.imp (A':=NTab obn na' (mapN S' N1)) 7 rfl (TabA.framed _ _) (fun F hF=>tab_grow s2 st.len h1 hF)).imp (A':=NTab obs na' (mapN S' N2)) 8 rfl (TabA.framed _ _) (fun F hF=>tab_grow s2 st.len h2 hF)
  have e:=flatC_grow s2 st.len h3
  unfold CpAll CpL
  rw [e]
  exact g1
end
end Go.Proofs.YtpmmiljakbojaaaGreat
