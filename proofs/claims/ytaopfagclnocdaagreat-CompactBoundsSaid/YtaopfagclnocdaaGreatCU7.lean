/- Rows.CompactBoundsSaid -/
import Derived.Test.YtaopfagclnocdaaGreatCU3
import Derived.Test.YtaopfagclnocdaaGreatCU6
import Derived.Lib.SlBytesConst
import Derived.Laws.ResultCell
import Derived.Deep.DeepCutAuto
namespace Go.Proofs.YtaopfagclnocdaaGreat
open Go.RowKit
set_option linter.unusedVariables false
set_option maxHeartbeats 64000000
set_option maxRecDepth 100000
section
variable {F0:List Nat} {w0 w:World} {R:List Asrt}
theorem w_new {g:Nat} (h:In F0 w0 w (Cells g #[.slice none 0 0] 176::R)):In F0 w0 w (WA g []::R):=by
 have h1:=h.rownil 5 1
 exact h1.fold (C:=WA g []) 0 rfl (WA.framed _ _) (fun F hF=>⟨_,hF⟩)
theorem src_bytes {g:Nat} {C:Array Value} {T:TypeId} {fz:Nat×Nat} {bs:List UInt8} (h:w.heap[g]?=some (.cells C T fz)) (hc:C.toList=u8s bs):Src w (some ⟨g,0,none⟩) bs.length 1 (u8s bs):=
 ⟨by rw [u8s_length,Nat.mul_one],fun _=>⟨_,rfl,fun j u hu=>by rw [add_at,Nat.zero_add];exact cell_of h (by rw [← hc,Array.getElem?_toList] at hu;exact hu)⟩⟩
def PutPost (kind ver:Int) (body:List UInt8) (F0:List Nat) (w0:World) (R:List Asrt) (e:Ending) (w':World):Prop:=
 ∃ v,e=.returned (.tuple #[v,.int .i64 (putErr kind ver body.length)])∧In F0 w0 w' (RowA 5 1 v (putB kind ver body).length (u8s (putB kind ver body))::R)
theorem o_frput (h:In F0 w0 w R) (kind ver:Int) {A:Option Addr} {c:Nat} {body:List UInt8} (hl:body.length≤10000000) (hs:∀ w',In F0 w0 w' R→Src w' A body.length 1 (u8s body)) :
  Calls Tryz.prog 106 #[.agg #[.int .i64 kind,.int .i64 ver,.slice A body.length c]] w (PutPost kind ver body F0 w0 R):=by
 have h1:=h.cells #[.int .i64 kind,.int .i64 ver,.slice A body.length c] 85
 have HERR:Hid (∀ e,putErr kind ver body.length=e→e≠0→PutPost kind ver body F0 w0 R (.returned (.tuple #[.slice none 0 0,.int .i64 e])) (w.alloc (.cells #[.int .i64 kind,.int .i64 ver,.slice A body.length c] 85))):=Lib.hid fun e he hne=>by
  have e2:putB kind ver body=[]:=by unfold putB;rw [he,if_neg hne]
  exact⟨_,by rw [he],by rw [e2];exact h1.drop.rownil _ _⟩
 have H1:=Lib.hid h1
 have HS:=Lib.hid hs
 by_cases hk:kind < 0∨255 < kind∨ver < 0∨255 < ver
 ·have HE:=Lib.hid (HERR.out 1 (by unfold putErr;rw [if_pos hk]) (by omega))
  clear h h1 hs HERR H1 HS
  by_cases k1:kind < 0
  ·clear hk
   go_enter Tryz.func106,Tryz.ntmps106
   go_wp2_with fail
   go_ret2
   exact HE.out
  ·by_cases k2:255 < kind
   ·clear hk
    go_enter Tryz.func106,Tryz.ntmps106
    go_wp2_with fail
    go_ret2
    exact HE.out
   ·by_cases k3:ver < 0
    ·clear hk
     go_enter Tryz.func106,Tryz.ntmps106
     go_wp2_with fail
     go_ret2
     exact HE.out
    ·have k4:255 < ver:=by omega
     clear hk
     go_enter Tryz.func106,Tryz.ntmps106
     go_wp2_with fail
     go_ret2
     exact HE.out
 ·have k1:0≤kind:=by omega
  have k2:kind≤255:=by omega
  have k3:0≤ver:=by omega
  have k4:ver≤255:=by omega
  by_cases hb:4096 < body.length
  ·have HE:=Lib.hid (HERR.out 4 (by unfold putErr;rw [if_neg hk,if_pos hb]) (by omega))
   have hb':(4096:Int) < (body.length:Int):=by omega
   clear h h1 hs HERR H1 HS hk hb
   go_enter Tryz.func106,Tryz.ntmps106
   go_wp2_with fail
   go_ret2
   exact HE.out
  ·have e0:putErr kind ver body.length=0:=by unfold putErr;rw [if_neg hk,if_neg hb]
   have e1:putB kind ver body=frBytes ⟨kind.toNat,ver.toNat,body⟩:=by unfold putB;rw [if_pos e0]
   have HP:Hid (∀ w' v,In F0 w0 w' (RowA 5 1 v (frBytes ⟨kind.toNat,ver.toNat,body⟩).length (u8s (frBytes ⟨kind.toNat,ver.toNat,body⟩))::R)→PutPost kind ver body F0 w0 R (.returned (.tuple #[v,.int .i64 0])) w'):=Lib.hid fun w' v h'=>⟨v,by rw [e0],by rw [e1];exact h'⟩
   have hbl:(body.length:Int)≤4096:=by omega
   have eh:frHead kind.toNat ver.toNat body.length=mark++be (u64 kind) 1++be (u64 ver) 1++be (u64 body.length) 2:=by
    have a1:u64 kind=kind.toNat:=by unfold u64;omega
    have a2:u64 ver=ver.toNat:=by unfold u64;omega
    have a3:u64 (body.length:Int)=body.length:=by unfold u64;omega
    rw [a1,a2,a3];rfl
   have ef:frBytes ⟨kind.toNat,ver.toNat,body⟩=frHead kind.toNat ver.toNat body.length++be (u64 (crc (frHead kind.toNat ver.toNat body.length))) 4++be (u64 (crc body)) 4++body:=by
    have a1:∀ b,u64 (crc b:Int)=crc b:=fun b=>by have:=crc_lt b;unfold u64;omega
    rw [a1,a1];rfl
   have EH:=Lib.hid eh
   have EF:=Lib.hid ef
   have hc1:=crc_lt (frHead kind.toNat ver.toNat body.length)
   have hc2:=crc_lt body
   have hh:(frHead kind.toNat ver.toNat body.length).length=8:=frHead_length _ _ _
   have HH:=Lib.hid hh
   have d0:∀ w',In F0 w0 w' (Cells w.heap.size #[.int .i64 kind,.int .i64 ver,.slice A body.length c] 85::R)→w'.cell? ⟨w.heap.size,0,none⟩=some (.int .i64 kind)∧w'.cell? ⟨w.heap.size,1,none⟩=some (.int .i64 ver)∧w'.cell? ⟨w.heap.size,2,none⟩=some (.slice A body.length c):=
    fun w' h'=>⟨cell_of (h'.block 0 rfl) rfl,cell_of (h'.block 0 rfl) rfl,cell_of (h'.block 0 rfl) rfl⟩
   have D0:=Lib.hid d0
   -- the writer,and its first bytes
   have h2:=w_new ((h1.cells #[.slice none 0 0] 176))
   simp only [World.size_alloc] at h2
   have kc:=Lib.run_convert_bytes_const (P:=Tryz.prog) ((w.alloc (.cells #[.int .i64 kind,.int .i64 ver,.slice A body.length c] 85)).alloc (.cells #[.slice none 0 0] 176)) 61 5 #[.int .u8 103,.int .u8 111,.int .u8 105,.int .u8 116] 4 4 Tryz.underlying61 Tryz.underlying5
   simp only [World.size_alloc] at kc
   have h3:=h2.alloc (.cells #[.int .u8 103,.int .u8 111,.int .u8 105,.int .u8 116] 5 (4,5))
   have s3:Src (((w.alloc (.cells #[.int .i64 kind,.int .i64 ver,.slice A body.length c] 85)).alloc (.cells #[.slice none 0 0] 176)).alloc (.cells #[.int .u8 103,.int .u8 111,.int .u8 105,.int .u8 116] 5 (4,5))) (some ⟨w.heap.size+1+1,0,none⟩) mark.length 1 (u8s mark):=by
    refine src_bytes (hp_alloc_at ?_) rfl
    simp
   have C1:=Lib.hid (o_wraw (c:=4) h3 0 rfl (by simp) s3 (by decide))
   clear h h1 hs HERR H1 h2 h3 s3 hk hb e0 e1 eh ef hh d0
   go_enter Tryz.func106,Tryz.ntmps106
   go_wp2_with fail
   refine C1.out.mono ?_
   rintro e w1 ⟨rfl,g1⟩
   clear C1 kc
   have l1:([]++mark).length≤1000000:=by decide
   have C2:=Lib.hid (o_wu8 g1 0 rfl l1 kind)
   obtain⟨d0,d1,d2⟩:=D0.out w1 g1.drop
   clear g1 l1
   go_wp2_with fail
   refine C2.out.mono ?_
   rintro e w2 ⟨rfl,g2⟩
   clear C2 d0 d1 d2
   have C3:=Lib.hid (o_wu8 g2 0 rfl (by simp [mark,be_length]) ver)
   obtain⟨d0,d1,d2⟩:=D0.out w2 g2.drop
   clear g2
   go_wp2_with fail
   refine C3.out.mono ?_
   rintro e w3 ⟨rfl,g3⟩
   clear C3 d0 d1 d2
   have C4:=Lib.hid (o_wu16 g3 0 rfl (by simp [mark,be_length]) body.length)
   obtain⟨d0,d1,d2⟩:=D0.out w3 g3.drop
   clear g3
   go_wp2_with fail
   refine C4.out.mono ?_
   rintro e w4 ⟨rfl,g4⟩
   clear C4 d0 d1 d2
   have g4':In F0 w0 w4 (WA (w.heap.size+1) (frHead kind.toNat ver.toNat body.length)::Cells w.heap.size #[.int .i64 kind,.int .i64 ver,.slice A body.length c] 85::R):=by rw [EH.out];exact g4
   clear g4 EH
   have C5:=Lib.hid (o_wbytes g4' 0 rfl (by rw [HH.out];omega))
   clear g4'
   go_wp2_with fail
   refine C5.out.mono ?_
   rintro e w5 ⟨v5,rfl,g5⟩
   clear C5
   obtain⟨F5,r5⟩:=g5.get 0 rfl
   obtain⟨a5,c5,rfl,-,-,-⟩:=r5.shape
   have C6:=Lib.hid (crc_call (c:=c5) r5.all (by rw [HH.out];omega))
   have C7:=Lib.hid (o_wu32 g5 1 rfl (by rw [HH.out];omega) (n:=(crc (frHead kind.toNat ver.toNat body.length):Int)) (by omega) (by omega))
   clear g5 r5
   go_wp2_with fail
   refine C6.out.mono ?_
   rintro e w6 ⟨rfl,rfl⟩
   clear C6
   go_wp2_with fail
   refine C7.out.mono ?_
   rintro e w7 ⟨rfl,g7⟩
   clear C7
   have g7':=g7.drop
   obtain⟨d0,d1,d2⟩:=D0.out w7 g7'.drop
   have C8:=Lib.hid (crc_call (c:=c) (HS.out w7 g7'.drop.drop) (by omega))
   have C9:=Lib.hid (o_wu32 g7' 0 rfl (by simp only [List.length_append,be_length,HH.out];omega) (n:=(crc body:Int)) (by omega) (by omega))
   clear g7 g7'
   go_wp2_with fail
   refine C8.out.mono ?_
   rintro e w8 ⟨rfl,rfl⟩
   clear C8
   go_wp2_with fail
   refine C9.out.mono ?_
   rintro e w9 ⟨rfl,g9⟩
   clear C9 d0 d1 d2
   obtain⟨d0,d1,d2⟩:=D0.out w9 g9.drop
   have C10:=Lib.hid (o_wraw (c:=c) g9 0 rfl (by simp only [List.length_append,be_length,HH.out];omega) (HS.out w9 g9.drop.drop) hl)
   clear g9
   go_wp2_with fail
   refine C10.out.mono ?_
   rintro e w10 ⟨rfl,g10⟩
   clear C10 d0 d1 d2
   have g10':In F0 w0 w10 (WA (w.heap.size+1) (frBytes ⟨kind.toNat,ver.toNat,body⟩)::Cells w.heap.size #[.int .i64 kind,.int .i64 ver,.slice A body.length c] 85::R):=by rw [EF.out];exact g10
   clear g10 EF
   have C11:=Lib.hid (o_wbytes g10' 0 rfl (by rw [frBytes_length];simp only;omega))
   clear g10'
   go_wp2_with fail
   refine C11.out.mono ?_
   rintro e w11 ⟨v11,rfl,g11⟩
   have HF:=Lib.hid (HP.out w11 v11 (g11.sel2 (R1:=[_,_,_]) [0] (by decide) rfl))
   clear g11 C11 HP
   go_wp2_with fail
   go_ret2
   exact HF.out
end
section
variable {F0:List Nat} {w0 w:World} {R:List Asrt}
def TakeFrPost (b:List UInt8) (F0:List Nat) (w0:World) (R:List Asrt) (e:Ending) (w':World):Prop:=
 ∃ v,e=.returned (.tuple #[.agg #[.int .i64 (frTake b).1.kind,.int .i64 (frTake b).1.ver,v],.int .i64 (frTake b).2.1,.int .i64 (frTake b).2.2]) ∧
  In F0 w0 w' (RowA 5 1 v (frTake b).1.body.length (u8s (frTake b).1.body)::R)
structure Bytes (F0:List Nat) (w0:World) (R:List Asrt) (A:Option Addr) (c:Nat) (b:List UInt8):Prop where
 src:∀ w',In F0 w0 w' R→Src w' A b.length 1 (u8s b)
 nil:A=none→c=0∧b=[]
 ad:A=none∨∃ g o,A=some ⟨g,o,none⟩
 cap:b.length≤c
 room:c≤maxLen
theorem In.set3 {g:Nat} {a b c:Value} {T:TypeId} (h:In F0 w0 w (Cells g #[a,b,c] T::R)) (x y z:Value):In F0 w0 (((w.setCell ⟨g,0,none⟩ x).setCell ⟨g,1,none⟩ y).setCell ⟨g,2,none⟩ z) (Cells g #[x,y,z] T::R):=
 ((h.put 0 rfl 0 x).put 0 rfl 1 y).put 0 rfl 2 z
end
def encFr (f:FrD) (v:Value):List Value:=[.int .i64 f.kind,.int .i64 f.ver,v]
def flatFr:List FrD→List Value→List Value
 | f::fs,v::vs=>encFr f v++flatFr fs vs
 | _,_=>[]
def bodyA (v:Value) (f:FrD):Asrt:=RowA 5 1 v f.body.length (u8s f.body)
def bodiesR:List Value→List FrD→List Asrt
 | v::vs,f::fs=>bodyA v f::bodiesR vs fs
 | _,_=>[]
def FrsR (v:Value) (vs:List Value) (fs:List FrD):List Asrt:=RowA 85 3 v fs.length (flatFr fs vs)::bodiesR vs fs
def FrsA (v:Value) (fs:List FrD):Asrt:=fun w F=>∃ vs:List Value,vs.length=fs.length∧Star (FrsR v vs fs) w F
theorem bodiesR.framed:∀ {vs:List Value} {fs:List FrD},∀ A∈bodiesR vs fs,Framed A
 | [],_,A,hA=>by simp [bodiesR] at hA
 | _::_,[],A,hA=>by simp [bodiesR] at hA
 | v::vs,f::fs,A,hA=>by
  rcases List.mem_cons.1 hA with rfl | hA
  ·exact RowA.framed _ _ _ _ _
  ·exact bodiesR.framed A hA
theorem FrsR.framed {v:Value} {vs:List Value} {fs:List FrD}:∀ A∈FrsR v vs fs,Framed A:=by
 intro A hA
 rcases List.mem_cons.1 hA with rfl | hA
 ·exact RowA.framed _ _ _ _ _
 ·exact bodiesR.framed A hA
theorem FrsA.framed (v:Value) (fs:List FrD):Framed (FrsA v fs):=by
 refine⟨?_,?_⟩
 ·rintro w w' F ⟨vs,hl,h⟩ hk;exact⟨vs,hl,(Framed.star FrsR.framed).keep h hk⟩
 ·rintro w F ⟨vs,hl,h⟩;exact (Framed.star FrsR.framed).lt h
theorem flatFr_snoc:∀ {fs:List FrD} {vs:List Value} (f:FrD) (v:Value),vs.length=fs.length→flatFr (fs++[f]) (vs++[v])=flatFr fs vs++encFr f v
 | [],[],f,v,_=>by simp [flatFr]
 | g::fs,u::vs,f,v,h=>by
  simp only [List.length_cons,Nat.add_right_cancel_iff] at h
  show encFr g u++flatFr (fs++[f]) (vs++[v])=encFr g u++flatFr fs vs++encFr f v
  rw [flatFr_snoc f v h,List.append_assoc]
 | [],_::_,_,_,h=>by simp at h
 | _::_,[],_,_,h=>by simp at h
theorem bodiesR_snoc:∀ {vs:List Value} {fs:List FrD} (v:Value) (f:FrD),vs.length=fs.length→bodiesR (vs++[v]) (fs++[f])=bodiesR vs fs++[bodyA v f]
 | [],[],v,f,_=>rfl
 | u::vs,g::fs,v,f,h=>by
  simp only [List.length_cons,Nat.add_right_cancel_iff] at h
  show bodyA u g::bodiesR (vs++[v]) (fs++[f])=_
  rw [bodiesR_snoc v f h];rfl
 | [],_::_,_,_,h=>by simp at h
 | _::_,[],_,_,h=>by simp at h
theorem infoFrame:(Tryz.prog.info? 85).map (fun i=>(i.zero.map (fun z=>z.cells.size),i.size,i.bytes))=some (some 3,3,40):=by kernel_rfl
section
variable {F0:List Nat} {w0 w:World} {R:List Asrt}
theorem In.right {R1 R2:List Asrt} (h:In F0 w0 w (R1++R2)):In F0 w0 w R2:=In.take (h.perm List.perm_append_comm)
def ScanRel (b:List UInt8) (F0:List Nat) (w0:World) (R:List Asrt) (v k:Value) (wr:World):Prop:=
 ∃ (n:Nat) (fs:List FrD) (vs:List Value),k=.int .i64 n∧n≤b.length∧vs.length=fs.length∧fs.length≤n∧frScan b=(fs++(frScan (b.drop n)).1,n+(frScan (b.drop n)).2.1,(frScan (b.drop n)).2.2) ∧
  In F0 w0 wr (RowA 85 3 v fs.length (flatFr fs vs)::(bodiesR vs fs++R))
def ScanPost (b:List UInt8) (F0:List Nat) (w0:World) (R:List Asrt) (e:Ending) (w':World):Prop:=
 ∃ v,e=.returned (.tuple #[v,.int .i64 (frScan b).2.1,.int .i64 (frScan b).2.2])∧In F0 w0 w' (FrsA v (frScan b).1::R)
theorem frs_close {v:Value} {vs:List Value} {fs:List FrD} (hl:vs.length=fs.length) (h:In F0 w0 w (RowA 85 3 v fs.length (flatFr fs vs)::(bodiesR vs fs++R))):In F0 w0 w (FrsA v fs::R):=by
 have h1:=In.join (A1:=FrsR v vs fs) (R:=R) h
 exact h1.imp (A':=FrsA v fs) 0 rfl (FrsA.framed _ _) fun F hF=>⟨vs,hl,hF⟩
end
theorem results_cell_tmp_row {P:Program} {fn:Func} {p u:Tmp} {ty:TypeId} (h:fn.results=#[.cell p ty,.tmp u]) (tmps:Array Value) (w:World) (g:Nat) (t:TypeId) (cs:Array Value) (fr:Nat×Nat) (d:TypeDesc)
  (hp:tmps.getD p undef=.pointer (some ⟨g,0,none⟩)) (hg:w.heap[g]?=some (.cells cs t fr))
  (hu:P.underlying ty=some d) (hd:(match d with | .struct _ | .array _ _=>true | _=>false)=true) (hi:(P.info? ty).map (·.size)=some cs.size) :
  (results fn tmps).run P w=.ok (.tuple #[.agg cs,tmps.getD u undef]) w:=by
 rw [results_cell_tmp h,hp]
 simp [asAddr,run_loadVar_row w g t ty cs fr d hg hu hd hi,Result.andThen]
section
variable {F0:List Nat} {w0 w:World} {R:List Asrt}
def REncPost (r:FrD×Int) (F0:List Nat) (w0:World) (R:List Asrt) (e:Ending) (w':World):Prop:=
 ∃ v,e=.returned (.tuple #[.agg #[.int .i64 r.1.kind,.int .i64 r.1.ver,v],.int .i64 r.2])∧In F0 w0 w' (bodyA v r.1::R)
theorem o_rcenc {r:Rec} {A:Option Addr} {c:Nat} (v:Int) (hs:BksAt F0 w0 R A r.bks) (wr:WfR r) (hl:r.bks.length≤1000000) (h:In F0 w0 w R):Calls Tryz.prog 37 #[agR r A c,.int .i64 v] w (REncPost (encRec r v) F0 w0 R):=by
 have KV:=Lib.hid (rc_version v)
 cases hv:verOk v with
 | false=>
  have e:encRec r v=(zeroFr,10):=by unfold encRec;rw [if_pos hv]
  have HH:Hid (∀ o o2,In F0 w0 ((w.alloc o).alloc o2) (bodyA (.slice none 0 0) zeroFr::R)):=Lib.hid (fun o o2=>((h.alloc o).alloc o2).rownil 5 1)
  rw [e];rw [hv] at KV
  clear e h hs hl hv wr
  obtain⟨kind,⟨⟨src,dst,proto,sport,dport⟩,fbk,fgen,fseen⟩,gen,bks,bk,till,count⟩:=r
  go_enter Tryz.func37,Tryz.ntmps37
  go_wp2_with fail
  refine (KV.out _).mono ?_
  rintro e w1 ⟨rfl,rfl⟩
  clear KV
  go_wp2_with fail
  exact bodyPost_ret (results_cell_tmp_row Tryz.results37 _ _ (w.heap.size+1) 85 _ (0,0) _ rfl (heap_alloc2_new _ _ _) Tryz.underlying85 rfl (by kernel_rfl)) rfl ⟨.slice none 0 0,rfl,HH.out _ _⟩
 | true=>
  rw [hv] at KV
  have hv13:1≤v∧v≤3:=of_decide_eq_true hv
  obtain⟨C0,hC0⟩:∃ C,C=(encRL r (.slice A r.bks.length c)).toArray:=⟨_,rfl⟩
  have h2:In F0 w0 ((w.alloc (.cells C0 45)).alloc (.cells #[.int .i64 0,.int .i64 0,.slice none 0 0] 85)) (Cells (w.heap.size+1) #[.int .i64 0,.int .i64 0,.slice none 0 0] 85::Cells w.heap.size C0 45::R):=by
   have h2:=(h.cells C0 45).cells #[.int .i64 0,.int .i64 0,.slice none 0 0] 85
   simp only [World.size_alloc] at h2
   exact h2
  have KM:=Lib.hid (o_rcmay (c:=c) (fun w' h'=>hs w' h'.drop.drop) (Nat.le_trans hl (by decide)) h2)
  cases hm:mayRec r with
  | false=>
   have e:encRec r v=(zeroFr,1):=by unfold encRec;rw [if_neg (by simp [hv]),if_pos hm]
   rw [e];rw [hm] at KM
   clear e h h2 hs hl hv hv13 wr hm
   obtain⟨kind,⟨⟨src,dst,proto,sport,dport⟩,fbk,fgen,fseen⟩,gen,bks,bk,till,count⟩:=r
   subst hC0
   go_enter Tryz.func37,Tryz.ntmps37
   go_wp2_with fail
   refine (KV.out _).mono ?_
   rintro e w1 ⟨rfl,rfl⟩
   clear KV
   go_wp2_with fail
   refine KM.out.mono ?_
   rintro e w1 ⟨rfl,g1⟩
   have d0:w1.cell? ⟨w.heap.size+1,0,none⟩=some (.int .i64 0):=cell_of (g1.block 0 rfl) rfl
   have d1:w1.cell? ⟨w.heap.size+1,1,none⟩=some (.int .i64 0):=cell_of (g1.block 0 rfl) rfl
   have d2:w1.cell? ⟨w.heap.size+1,2,none⟩=some (.slice none 0 0):=cell_of (g1.block 0 rfl) rfl
   have f0:w1.frozen? ⟨w.heap.size+1,0,none⟩=false:=free_of (g1.block 0 rfl)
   have f1:w1.frozen? ⟨w.heap.size+1,1,none⟩=false:=free_of (g1.block 0 rfl)
   have f2:w1.frozen? ⟨w.heap.size+1,2,none⟩=false:=free_of (g1.block 0 rfl)
   have G:=Lib.hid (g1.setFull 0 rfl (xs:=[.int .i64 0,.int .i64 0,.slice none 0 0]) (b:=w.heap.size+1) (C:=#[.int .i64 0,.int .i64 0,.slice none 0 0]) (T:=85) rfl)
   clear g1 KM
   go_wp2_with fail
   exact bodyPost_ret (results_cell_tmp_row Tryz.results37 _ _ (w.heap.size+1) 85 _ (0,0) _ rfl (G.out.block 0 rfl) Tryz.underlying85 rfl (by kernel_rfl)) rfl ⟨.slice none 0 0,rfl,(G.out.drop.drop).rownil 5 1⟩
  | true=>
   have e:encRec r v=(⟨r.kind.toNat,v.toNat,recBody r v⟩,0):=by unfold encRec;rw [if_neg (by simp [hv]),if_neg (by simp [hm])]
   have hk:((r.kind.toNat:Nat):Int)=r.kind:=by
    have hm2:=hm
    rw [mayRec_iff] at hm2;apply Int.toNat_of_nonneg;omega
   have hvn:((v.toNat:Nat):Int)=v:=Int.toNat_of_nonneg (by omega)
   have hbl:=recBody_length v hm
   rw [e];rw [hm] at KM
   have KW:=Lib.hid (fun w' bw (h':In F0 w0 w' (WA bw []::Cells (w.heap.size+1) #[.int .i64 0,.int .i64 0,.slice none 0 0] 85::Cells w.heap.size C0 45::R))=>o_rcwrite (c:=c) (l:=[]) v (fun w' h'=>hs w' h'.drop.drop) wr hm (by decide) h')
   simp only [List.nil_append] at KW
   have HC0:Hid (C0[0]?=some (.int .i64 r.kind)):=Lib.hid (by rw [hC0];rfl)
   have HLD:Hid (∀ w':World,w'.heap[w.heap.size]?=some (.cells C0 45 (0,0))→w'.heap[w.heap.size]?=some (.cells (encRL r (.slice A r.bks.length c)).toArray 45 (0,0))):=Lib.hid fun w' h'=>by rw [h',hC0]
   have HB:Hid (∀ w' b (h':In F0 w0 w' (RowA 5 1 b (recBody r v).length (u8s (recBody r v))::Cells (w.heap.size+1) #[.int .i64 r.kind,.int .i64 v,b] 85::R)),REncPost (⟨r.kind.toNat,v.toNat,recBody r v⟩,0) F0 w0 R (.returned (.tuple #[.agg #[.int .i64 r.kind,.int .i64 v,b],.int .i64 0])) w'):=Lib.hid fun w' b h'=>⟨b,by simp only;rw [hk,hvn],h'.sel2 (R1:=[_,_]) [0] (by decide) rfl⟩
   have HBL:=Lib.hid hbl
   clear e h h2 hs hl hv hv13 wr hm hk hvn hbl
   generalize recBody r v=body at *
   obtain⟨kind,⟨⟨src,dst,proto,sport,dport⟩,fbk,fgen,fseen⟩,gen,bks,bk,till,count⟩:=r
   have hC1:=hC0
   subst hC0
   clear hC1
   go_enter Tryz.func37,Tryz.ntmps37
   go_wp2_with fail
   refine (KV.out _).mono ?_
   rintro e w1 ⟨rfl,rfl⟩
   clear KV
   go_wp2_with fail
   refine KM.out.mono ?_
   rintro e w1 ⟨rfl,g1⟩
   have g2:=w_new (g1.cells #[.slice none 0 0] 176)
   have K2:=Lib.hid (KW.out _ _ g2)
   have q0:(w1.alloc (.cells #[.slice none 0 0] 176)).heap[w.heap.size]?=some (.cells (encRL ⟨kind,⟨⟨src,dst,proto,sport,dport⟩,fbk,fgen,fseen⟩,gen,bks,bk,till,count⟩ (.slice A bks.length c)).toArray 45 (0,0)):=g2.block 2 rfl
   clear g1 g2 KM KW
   go_wp2_with (refine wpList_load_row rfl 45 (.tmp 2) rfl w.heap.size rfl 45 _ (0,0) _ q0 Tryz.underlying45 rfl (by kernel_rfl) ?_)
   refine K2.out.mono ?_
   rintro e w2 ⟨rfl,g3⟩
   have y0:w2.cell? ⟨w.heap.size,0,none⟩=some (.int .i64 kind):=cell_of (g3.block 2 rfl) rfl
   have HB3:=Lib.hid (fun w' (h':In F0 w0 w' (WA w1.heap.size body::Cells (w.heap.size+1) #[.int .i64 0,.int .i64 0,.slice none 0 0] 85::Cells w.heap.size (encRL ⟨kind,⟨⟨src,dst,proto,sport,dport⟩,fbk,fgen,fseen⟩,gen,bks,bk,till,count⟩ (.slice A bks.length c)).toArray 45::R))=>o_wbytes h' 0 rfl (Nat.le_trans HBL.out (by decide)))
   have HG3:=Lib.hid (fun n=>g3.drewN n)
   clear q0 K2 g3
   go_wp2_with fail
   go_region_held3 (fun w'=>w'.cell? ⟨w.heap.size,0,none⟩=some (.int .i64 kind)) (first | exact hz | exact y0 | go_keep)
    (first | (go_at_call 105;refine (HB3.out _ (HG3.out _)).mono ?_;rintro e w3 ⟨bv,rfl,g4⟩;have hz:w3.cell? ⟨w.heap.size,0,none⟩=some (.int .i64 kind):=cell_of (g4.block 3 rfl) rfl;have f0:w3.frozen? ⟨w.heap.size+1,0,none⟩=false:=free_of (g4.block 2 rfl);have f1:w3.frozen? ⟨w.heap.size+1,1,none⟩=false:=free_of (g4.block 2 rfl);have f2:w3.frozen? ⟨w.heap.size+1,2,none⟩=false:=free_of (g4.block 2 rfl);have d0:w3.cell? ⟨w.heap.size+1,0,none⟩=some (.int .i64 0):=cell_of (g4.block 2 rfl) rfl;have d1:w3.cell? ⟨w.heap.size+1,1,none⟩=some (.int .i64 0):=cell_of (g4.block 2 rfl) rfl;have d2:w3.cell? ⟨w.heap.size+1,2,none⟩=some (.slice none 0 0):=cell_of (g4.block 2 rfl) rfl;obtain⟨F4,r4⟩:=g4.get 0 rfl;obtain⟨ab,cb,rfl,-,-,-⟩:=RowA.shape r4;have G4:=Lib.hid g4;clear g4 r4))
   have g5:=G4.out.setFull 2 rfl (xs:=[.int .i64 kind,.int .i64 v,.slice ab body.length cb]) (b:=w.heap.size+1) (C:=#[.int .i64 0,.int .i64 0,.slice none 0 0]) (T:=85) rfl
   have G5:=Lib.hid g5
   have G6:=Lib.hid (HB.out _ _ (g5.sel2 (R1:=[_,_,_,_]) [0,2] (by decide) rfl))
   clear g5 G4
   go_wp2_with fail
   exact bodyPost_ret (results_cell_tmp_row Tryz.results37 _ _ (w.heap.size+1) 85 _ (0,0) _ rfl (G5.out.block 2 rfl) Tryz.underlying85 rfl (by kernel_rfl)) rfl G6.out
end
section
variable {F0:List Nat} {w0 w:World} {R:List Asrt} {br:Nat} {s:RdS}
abbrev RdB (br:Nat) (s:RdS):Asrt:=RdA br s.1 s.2
abbrev pR (br:Nat):Value:=.pointer (some ⟨br,0,none⟩)
def RNPost (v:Value) (br:Nat) (s:RdS) (F0:List Nat) (w0:World) (R:List Asrt) (e:Ending) (w':World):Prop:=e=.returned v∧In F0 w0 w' (RdB br s::R)
def TRPost (r:Tup×Bool×RdS) (br:Nat) (F0:List Nat) (w0:World) (R:List Asrt) (e:Ending) (w':World):Prop:=e=.returned (.tuple #[.agg (encT r.1),.bool r.2.1])∧In F0 w0 w' (RdB br r.2.2::R)
end
end Go.Proofs.YtaopfagclnocdaaGreat
