/- Rows.StoreRefusesSaid -/
import Derived.Test.YtpmmiljakbojaaaGreatRF13
import Derived.Test.YtpmmiljakbojaaaGreatRF7
import Derived.Laws.ResultCell
import Derived.Deep.DeepCutAuto
import Derived.Test.YtpmmiljakbojaaaGreatRF2
import Derived.Test.YtpmmiljakbojaaaGreatRF1
import Derived.Maps.RangeWalk
import Derived.Maps.OwnIn
import Derived.RangeFuncStops
namespace Go.Proofs.YtpmmiljakbojaaaGreat
open Go.RowKit
open Go.Maps (Keyed)
open Go.RowKit Go.MapKept
open Go.ChangeMaps (setBlock)
set_option linter.unusedVariables false
set_option maxHeartbeats 64000000
set_option maxRecDepth 100000
theorem results_cell_tmp_row {P:Program} {fn:Func} {p u:Tmp} {ty:TypeId} (h:fn.results=#[.cell p ty,.tmp u]) (tmps:Array Value) (w:World) (g:Nat) (t:TypeId) (cs:Array Value) (fr:Nat×Nat) (d:TypeDesc)
  (hp:tmps.getD p undef=.pointer (some ⟨g,0,none⟩)) (hg:w.heap[g]?=some (.cells cs t fr))
  (hu:P.underlying ty=some d) (hd:(match d with | .struct _ | .array _ _=>true | _=>false)=true) (hi:(P.info? ty).map (·.size)=some cs.size) :
  (results fn tmps).run P w=.ok (.tuple #[.agg cs,tmps.getD u undef]) w:=by
 rw [results_cell_tmp h,hp]
 simp [asAddr,run_loadVar_row w g t ty cs fr d hg hu hd hi,Result.andThen]
section
variable {F0:List Nat} {w0 w:World} {R:List Asrt}
def REncPost (r:FrD×Int) (F0:List Nat) (w0:World) (R:List Asrt) (e:Ending) (w':World):Prop:=
 ∃ v,e=.returned (.tuple #[.agg #[.int .i64 r.1.kind,.int .i64 r.1.ver,v],.int .i64 r.2])∧In F0 w0 w' (bodyA v r.1::R)
theorem o_rcenc {r:Rec} {A:Option Addr} {c:Nat} (v:Int) (hs:BksAt F0 w0 R A r.bks) (wr:WfR r) (hl:r.bks.length≤1000000) (h:In F0 w0 w R):Calls Tryz.prog 25 #[agR r A c,.int .i64 v] w (REncPost (encRec r v) F0 w0 R):=by
 have KV:=Lib.hid (rc_version v)
 cases hv:verOk v with
 | false=>
  have e:encRec r v=(zeroFr,10):=by unfold encRec;rw [if_pos hv]
  have HH:Hid (∀ o o2,In F0 w0 ((w.alloc o).alloc o2) (bodyA (.slice none 0 0) zeroFr::R)):=Lib.hid (fun o o2=>((h.alloc o).alloc o2).rownil 5 1)
  rw [e];rw [hv] at KV
  clear e h hs hl hv wr
  obtain⟨kind,⟨⟨src,dst,proto,sport,dport⟩,fbk,fgen,fseen⟩,gen,bks,bk,till,count⟩:=r
  go_enter Tryz.func25,Tryz.ntmps25
  go_wp2_with fail
  refine (KV.out _).mono ?_
  rintro e w1 ⟨rfl,rfl⟩
  clear KV
  go_wp2_with fail
  exact bodyPost_ret (results_cell_tmp_row Tryz.results25 _ _ (w.heap.size+1) 74 _ (0,0) _ rfl (heap_alloc2_new _ _ _) Tryz.underlying74 rfl (by kernel_rfl)) rfl ⟨.slice none 0 0,rfl,HH.out _ _⟩
 | true=>
  rw [hv] at KV
  have hv13:1≤v∧v≤3:=of_decide_eq_true hv
  obtain⟨C0,hC0⟩:∃ C,C=(encRL r (.slice A r.bks.length c)).toArray:=⟨_,rfl⟩
  have h2:In F0 w0 ((w.alloc (.cells C0 39)).alloc (.cells #[.int .i64 0,.int .i64 0,.slice none 0 0] 74)) (Cells (w.heap.size+1) #[.int .i64 0,.int .i64 0,.slice none 0 0] 74::Cells w.heap.size C0 39::R):=by
   have h2:=(h.cells C0 39).cells #[.int .i64 0,.int .i64 0,.slice none 0 0] 74
   simp only [World.size_alloc] at h2
   exact h2
  have KM:=Lib.hid (o_rcmay (c:=c) (fun w' h'=>hs w' h'.drop.drop) (Nat.le_trans hl (by decide)) h2)
  cases hm:mayRec r with
  | false=>
   have e:encRec r v=(zeroFr,1):=by unfold encRec;rw [if_neg (by simp [hv]),if_pos hm]
   rw [e];rw [hm] at KM
   clear e h h2 hs hl hv hv13 wr hm
   obtain⟨kind,⟨⟨src,dst,proto,sport,dport⟩,fbk,fgen,fseen⟩,gen,bks,bk,till,count⟩:=r
   subst hC0
   go_enter Tryz.func25,Tryz.ntmps25
   go_wp2_with fail
   refine (KV.out _).mono ?_
   rintro e w1 ⟨rfl,rfl⟩
   clear KV
   go_wp2_with fail
   refine KM.out.mono ?_
   rintro e w1 ⟨rfl,g1⟩
   have d0:w1.cell? ⟨w.heap.size+1,0,none⟩=some (.int .i64 0):=cell_of (g1.block 0 rfl) rfl
   have d1:w1.cell? ⟨w.heap.size+1,1,none⟩=some (.int .i64 0):=cell_of (g1.block 0 rfl) rfl
   have d2:w1.cell? ⟨w.heap.size+1,2,none⟩=some (.slice none 0 0):=cell_of (g1.block 0 rfl) rfl
   have f0:w1.frozen? ⟨w.heap.size+1,0,none⟩=false:=free_of (g1.block 0 rfl)
   have f1:w1.frozen? ⟨w.heap.size+1,1,none⟩=false:=free_of (g1.block 0 rfl)
   have f2:w1.frozen? ⟨w.heap.size+1,2,none⟩=false:=free_of (g1.block 0 rfl)
   have G:=Lib.hid (g1.setFull 0 rfl (xs:=[.int .i64 0,.int .i64 0,.slice none 0 0]) (b:=w.heap.size+1) (C:=#[.int .i64 0,.int .i64 0,.slice none 0 0]) (T:=74) rfl)
   clear g1 KM
   go_wp2_with fail
   exact bodyPost_ret (results_cell_tmp_row Tryz.results25 _ _ (w.heap.size+1) 74 _ (0,0) _ rfl (G.out.block 0 rfl) Tryz.underlying74 rfl (by kernel_rfl)) rfl ⟨.slice none 0 0,rfl,(G.out.drop.drop).rownil 5 1⟩
  | true=>
   have e:encRec r v=(⟨r.kind.toNat,v.toNat,recBody r v⟩,0):=by unfold encRec;rw [if_neg (by simp [hv]),if_neg (by simp [hm])]
   have hk:((r.kind.toNat:Nat):Int)=r.kind:=by
    have hm2:=hm
    rw [mayRec_iff] at hm2;apply Int.toNat_of_nonneg;omega
   have hvn:((v.toNat:Nat):Int)=v:=Int.toNat_of_nonneg (by omega)
   have hbl:=recBody_length v hm
   rw [e];rw [hm] at KM
   have KW:=Lib.hid (fun w' bw (h':In F0 w0 w' (WA bw []::Cells (w.heap.size+1) #[.int .i64 0,.int .i64 0,.slice none 0 0] 74::Cells w.heap.size C0 39::R))=>o_rcwrite (c:=c) (l:=[]) v (fun w' h'=>hs w' h'.drop.drop) wr hm (by decide) h')
   simp only [List.nil_append] at KW
   have HC0:Hid (C0[0]?=some (.int .i64 r.kind)):=Lib.hid (by rw [hC0];rfl)
   have HLD:Hid (∀ w':World,w'.heap[w.heap.size]?=some (.cells C0 39 (0,0))→w'.heap[w.heap.size]?=some (.cells (encRL r (.slice A r.bks.length c)).toArray 39 (0,0))):=Lib.hid fun w' h'=>by rw [h',hC0]
   have HB:Hid (∀ w' b (h':In F0 w0 w' (RowA 5 1 b (recBody r v).length (u8s (recBody r v))::Cells (w.heap.size+1) #[.int .i64 r.kind,.int .i64 v,b] 74::R)),REncPost (⟨r.kind.toNat,v.toNat,recBody r v⟩,0) F0 w0 R (.returned (.tuple #[.agg #[.int .i64 r.kind,.int .i64 v,b],.int .i64 0])) w'):=Lib.hid fun w' b h'=>⟨b,by simp only;rw [hk,hvn],h'.sel2 (R1:=[_,_]) [0] (by decide) rfl⟩
   have HBL:=Lib.hid hbl
   clear e h h2 hs hl hv hv13 wr hm hk hvn hbl
   generalize recBody r v=body at *
   obtain⟨kind,⟨⟨src,dst,proto,sport,dport⟩,fbk,fgen,fseen⟩,gen,bks,bk,till,count⟩:=r
   have hC1:=hC0
   subst hC0
   clear hC1
   go_enter Tryz.func25,Tryz.ntmps25
   go_wp2_with fail
   refine (KV.out _).mono ?_
   rintro e w1 ⟨rfl,rfl⟩
   clear KV
   go_wp2_with fail
   refine KM.out.mono ?_
   rintro e w1 ⟨rfl,g1⟩
   have g2:=w_new (g1.cells #[.slice none 0 0] 143)
   have K2:=Lib.hid (KW.out _ _ g2)
   have q0:(w1.alloc (.cells #[.slice none 0 0] 143)).heap[w.heap.size]?=some (.cells (encRL ⟨kind,⟨⟨src,dst,proto,sport,dport⟩,fbk,fgen,fseen⟩,gen,bks,bk,till,count⟩ (.slice A bks.length c)).toArray 39 (0,0)):=g2.block 2 rfl
   clear g1 g2 KM KW
   go_wp2_with (refine wpList_load_row rfl 39 (.tmp 2) rfl w.heap.size rfl 39 _ (0,0) _ q0 Tryz.underlying39 rfl (by kernel_rfl) ?_)
   refine K2.out.mono ?_
   rintro e w2 ⟨rfl,g3⟩
   have y0:w2.cell? ⟨w.heap.size,0,none⟩=some (.int .i64 kind):=cell_of (g3.block 2 rfl) rfl
   have HB3:=Lib.hid (fun w' (h':In F0 w0 w' (WA w1.heap.size body::Cells (w.heap.size+1) #[.int .i64 0,.int .i64 0,.slice none 0 0] 74::Cells w.heap.size (encRL ⟨kind,⟨⟨src,dst,proto,sport,dport⟩,fbk,fgen,fseen⟩,gen,bks,bk,till,count⟩ (.slice A bks.length c)).toArray 39::R))=>o_wbytes h' 0 rfl (Nat.le_trans HBL.out (by decide)))
   have HG3:=Lib.hid (fun n=>g3.drewN n)
   clear q0 K2 g3
   go_wp2_with fail
   go_region_held3 (fun w'=>w'.cell? ⟨w.heap.size,0,none⟩=some (.int .i64 kind)) (first | exact hz | exact y0 | go_keep)
    (first | (go_at_call 71;refine (HB3.out _ (HG3.out _)).mono ?_;rintro e w3 ⟨bv,rfl,g4⟩;have hz:w3.cell? ⟨w.heap.size,0,none⟩=some (.int .i64 kind):=cell_of (g4.block 3 rfl) rfl;have f0:w3.frozen? ⟨w.heap.size+1,0,none⟩=false:=free_of (g4.block 2 rfl);have f1:w3.frozen? ⟨w.heap.size+1,1,none⟩=false:=free_of (g4.block 2 rfl);have f2:w3.frozen? ⟨w.heap.size+1,2,none⟩=false:=free_of (g4.block 2 rfl);have d0:w3.cell? ⟨w.heap.size+1,0,none⟩=some (.int .i64 0):=cell_of (g4.block 2 rfl) rfl;have d1:w3.cell? ⟨w.heap.size+1,1,none⟩=some (.int .i64 0):=cell_of (g4.block 2 rfl) rfl;have d2:w3.cell? ⟨w.heap.size+1,2,none⟩=some (.slice none 0 0):=cell_of (g4.block 2 rfl) rfl;obtain⟨F4,r4⟩:=g4.get 0 rfl;obtain⟨ab,cb,rfl,-,-,-⟩:=RowA.shape r4;have G4:=Lib.hid g4;clear g4 r4))
   have g5:=G4.out.setFull 2 rfl (xs:=[.int .i64 kind,.int .i64 v,.slice ab body.length cb]) (b:=w.heap.size+1) (C:=#[.int .i64 0,.int .i64 0,.slice none 0 0]) (T:=74) rfl
   have G5:=Lib.hid g5
   have G6:=Lib.hid (HB.out _ _ (g5.sel2 (R1:=[_,_,_,_]) [0,2] (by decide) rfl))
   clear g5 G4
   go_wp2_with fail
   exact bodyPost_ret (results_cell_tmp_row Tryz.results25 _ _ (w.heap.size+1) 74 _ (0,0) _ rfl (G5.out.block 2 rfl) Tryz.underlying74 rfl (by kernel_rfl)) rfl G6.out
end
section
variable {F0:List Nat} {w0 w:World} {R:List Asrt} {br:Nat} {s:RdS}
abbrev RdB (br:Nat) (s:RdS):Asrt:=RdA br s.1 s.2
abbrev pR (br:Nat):Value:=.pointer (some ⟨br,0,none⟩)
def RNPost (v:Value) (br:Nat) (s:RdS) (F0:List Nat) (w0:World) (R:List Asrt) (e:Ending) (w':World):Prop:=e=.returned v∧In F0 w0 w' (RdB br s::R)
theorem k_r8 (h:In F0 w0 w (RdB br s::R)):Calls Tryz.prog 160 #[pR br] w (RNPost (.int .i64 (rdN 1 s)) br (rdS 1 s) F0 w0 R):=o_ru8 h 0 rfl
theorem k_r16 (h:In F0 w0 w (RdB br s::R)):Calls Tryz.prog 139 #[pR br] w (RNPost (.int .i64 (rdN 2 s)) br (rdS 2 s) F0 w0 R):=o_ru16 h 0 rfl
theorem k_r32 (h:In F0 w0 w (RdB br s::R)):Calls Tryz.prog 138 #[pR br] w (RNPost (.int .u32 (rdN 4 s)) br (rdS 4 s) F0 w0 R):=o_ru32 h 0 rfl
theorem k_r64 (h:In F0 w0 w (RdB br s::R)):Calls Tryz.prog 166 #[pR br] w (RNPost (.int .i64 (sig64 (rdN 8 s))) br (rdS 8 s) F0 w0 R):=o_ri64 h 0 rfl
def TRPost (r:Tup×Bool×RdS) (br:Nat) (F0:List Nat) (w0:World) (R:List Asrt) (e:Ending) (w':World):Prop:=e=.returned (.tuple #[.agg (encT r.1),.bool r.2.1])∧In F0 w0 w' (RdB br r.2.2::R)
theorem o_tread (h:In F0 w0 w (RdB br s::R)):Calls Tryz.prog 164 #[pR br] w (TRPost (rdTup s) br F0 w0 R):=by
 have h1:In F0 w0 (w.alloc (.cells (encT zeroT) 34)) (RdB br s::Cells w.heap.size (encT zeroT) 34::R):=(h.cells (encT zeroT) 34).sel2 (R1:=[_,_]) [1,0] (by decide) rfl
 have KL:=Lib.hid (o_rleft h1 0 rfl)
 by_cases h13:s.1.length < 13
 ·have e:rdTup s=(zeroT,false,rdS 13 s):=by unfold rdTup;rw [if_pos h13]
  have KR:=Lib.hid (o_rraw h1 0 rfl 13 (by decide))
  have q:((s.1.length:Nat):Int) < 13:=by omega
  have HS:Hid (∀ w',In F0 w0 w' (RdA br (rdTake s.1 s.2 13).2.1 (rdTake s.1 s.2 13).2.2::Cells w.heap.size (encT zeroT) 34::R)→In F0 w0 w' (RdB br (rdS 13 s)::Cells w.heap.size (encT zeroT) 34::R)):=Lib.hid fun w' h'=>h'
  rw [e]
  clear e h h1 h13
  go_enter Tryz.func164,Tryz.ntmps164
  go_wp2_with fail
  refine KL.out.mono ?_
  rintro e w1 ⟨rfl,rfl⟩
  clear KL
  go_wp2_with fail
  refine KR.out.mono ?_
  rintro e w1 ⟨v,rfl,g1⟩
  have g2:=HS.out w1 g1.drop
  have q1:=there_of (g2.block 1 rfl)
  have G:=Lib.hid (g2.setFull 1 rfl (xs:=(encT zeroT).toList) (b:=w.heap.size) (C:=encT zeroT) (T:=34) rfl)
  have Q1:=Lib.hid q1
  clear g1 g2 q1 KR HS
  go_wp2_with (refine wpList_store_mid (op:=⟨none,Op.store 34 (.tmp 2) (.tmp 12),_,_,_,_⟩) (by rfl) 34 (.tmp 2) (.tmp 12) rfl w.heap.size 0 (encT zeroT) (by rfl) (by rfl) Q1.out (by kernel_rfl) (encT_all _) ?_)
  exact bodyPost_ret (results_cell_tmp_row Tryz.results164 _ _ w.heap.size 34 _ (0,0) _ rfl (G.out.block 1 rfl) Tryz.underlying34 rfl (by kernel_rfl)) rfl ⟨rfl,G.out.sel2 (R1:=[_,_]) [0] (by decide) rfl⟩
 ·have q:decide (((s.1.length:Nat):Int) < 13)=false:=decide_eq_false (by omega)
  obtain⟨s1,hs1⟩:∃ x,x=rdS 4 s:=⟨_,rfl⟩
  obtain⟨s2,hs2⟩:∃ x,x=rdS 4 s1:=⟨_,rfl⟩
  obtain⟨s3,hs3⟩:∃ x,x=rdS 1 s2:=⟨_,rfl⟩
  obtain⟨s4,hs4⟩:∃ x,x=rdS 2 s3:=⟨_,rfl⟩
  obtain⟨s5,hs5⟩:∃ x,x=rdS 2 s4:=⟨_,rfl⟩
  obtain⟨a1,ha1⟩:∃ x,x=rdN 4 s:=⟨_,rfl⟩
  obtain⟨a2,ha2⟩:∃ x,x=rdN 4 s1:=⟨_,rfl⟩
  obtain⟨a3,ha3⟩:∃ x,x=rdN 1 s2:=⟨_,rfl⟩
  obtain⟨a4,ha4⟩:∃ x,x=rdN 2 s3:=⟨_,rfl⟩
  obtain⟨a5,ha5⟩:∃ x,x=rdN 2 s4:=⟨_,rfl⟩
  have ht:tupAt s=⟨a1,a2,a3,a4,a5⟩:=by unfold tupAt;rw [← hs1,← hs2,← hs3,← hs4,← ha1,← ha2,← ha3,← ha4,← ha5]
  have e:rdTup s=if MayT ⟨a1,a2,a3,a4,a5⟩ then (⟨a1,a2,a3,a4,a5⟩,true,s5) else (zeroT,false,s5):=by
   unfold rdTup;rw [if_neg h13,ht,← hs1,← hs2,← hs3,← hs4,← hs5]
  have K1:=k_r32 h1
  rw [← ha1,← hs1] at K1
  have HK1:=Lib.hid K1
  have HK2:Hid (∀ w' R',In F0 w0 w' (RdB br s1::R')→Calls Tryz.prog 138 #[pR br] w' (RNPost (.int .u32 a2) br s2 F0 w0 R')):=Lib.hid fun w' R' h'=>by rw [ha2,hs2];exact k_r32 h'
  have HK3:Hid (∀ w' R',In F0 w0 w' (RdB br s2::R')→Calls Tryz.prog 160 #[pR br] w' (RNPost (.int .i64 a3) br s3 F0 w0 R')):=Lib.hid fun w' R' h'=>by rw [ha3,hs3];exact k_r8 h'
  have HK4:Hid (∀ w' R',In F0 w0 w' (RdB br s3::R')→Calls Tryz.prog 139 #[pR br] w' (RNPost (.int .i64 a4) br s4 F0 w0 R')):=Lib.hid fun w' R' h'=>by rw [ha4,hs4];exact k_r16 h'
  have HK5:Hid (∀ w' R',In F0 w0 w' (RdB br s4::R')→Calls Tryz.prog 139 #[pR br] w' (RNPost (.int .i64 a5) br s5 F0 w0 R')):=Lib.hid fun w' R' h'=>by rw [ha5,hs5];exact k_r16 h'
  have KT:=Lib.hid (tmay_b ⟨a1,a2,a3,a4,a5⟩)
  rw [e]
  clear e h h1 h13 ht hs1 hs2 hs3 hs4 hs5 ha1 ha2 ha3 ha4 ha5 K1
  generalize ((a1:Nat):Int)=t1 at *
  generalize ((a2:Nat):Int)=t2 at *
  generalize ((a3:Nat):Int)=t3 at *
  generalize ((a4:Nat):Int)=t4 at *
  generalize ((a5:Nat):Int)=t5 at *
  by_cases hm:MayT ⟨t1,t2,t3,t4,t5⟩
  ·rw [if_pos hm]
   rw [decide_eq_true hm] at KT
   clear hm
   go_enter Tryz.func164,Tryz.ntmps164
   go_wp2_with fail
   refine KL.out.mono ?_
   rintro e w1 ⟨rfl,rfl⟩
   clear KL
   go_wp2_with fail
   refine HK1.out.mono ?_
   rintro e w1 ⟨rfl,g1⟩
   have G1:=Lib.hid (HK2.out w1 _ g1)
   clear g1 HK1 HK2
   go_wp2_with fail
   refine G1.out.mono ?_
   rintro e w2 ⟨rfl,g2⟩
   have G2:=Lib.hid (HK3.out w2 _ g2)
   clear g2 G1 HK3
   go_wp2_with fail
   refine G2.out.mono ?_
   rintro e w3 ⟨rfl,g3⟩
   have g4:=(g3.cells #[.int .u32 t1,.int .u32 t2,.int .i64 t3,.int .i64 0,.int .i64 0] 34).sel2 (R1:=[_,_,_]) [1,0,2] (by decide) rfl
   have G4:=Lib.hid (HK4.out _ _ g4)
   clear g3 g4 G2 HK4
   go_wp2_with fail
   refine G4.out.mono ?_
   rintro e w4 ⟨rfl,g5⟩
   have G5:=Lib.hid (HK5.out w4 _ g5)
   clear g5 G4 HK5
   go_wp2_with fail
   refine G5.out.mono ?_
   rintro e w5 ⟨rfl,g6⟩
   have f3:w5.frozen? ⟨w3.heap.size,3,none⟩=false:=free_of (g6.block 1 rfl)
   have f4:w5.frozen? ⟨w3.heap.size,4,none⟩=false:=free_of (g6.block 1 rfl)
   have d3:w5.cell? ⟨w3.heap.size,3,none⟩=some (.int .i64 0):=cell_of (g6.block 1 rfl) rfl
   have d4:w5.cell? ⟨w3.heap.size,4,none⟩=some (.int .i64 0):=cell_of (g6.block 1 rfl) rfl
   have g7:In F0 w0 ((w5.setCell ⟨w3.heap.size,3,none⟩ (.int .i64 t4)).setCell ⟨w3.heap.size,4,none⟩ (.int .i64 t5)) (RdB br s5::Cells w3.heap.size (encT ⟨t1,t2,t3,t4,t5⟩) 34::Cells w.heap.size (encT zeroT) 34::R):=by
    have g7:=In.setCs [.int .i64 t4,.int .i64 t5] 3 1 g6 (b:=w3.heap.size) (C:=#[.int .u32 t1,.int .u32 t2,.int .i64 t3,.int .i64 0,.int .i64 0]) (T:=34) rfl
    rw [setL_at (ys:=(encT ⟨t1,t2,t3,t4,t5⟩).toList) (by simp) (by simp)] at g7
    exact g7
   have q0:((w5.setCell ⟨w3.heap.size,3,none⟩ (.int .i64 t4)).setCell ⟨w3.heap.size,4,none⟩ (.int .i64 t5)).heap[w3.heap.size]?=some (.cells (encT ⟨t1,t2,t3,t4,t5⟩) 34 (0,0)):=g7.block 1 rfl
   have G7:=Lib.hid g7
   clear g6 g7 G5
   go_wp2_with (refine wpList_load_row rfl 34 (.tmp 6) rfl w3.heap.size rfl 34 _ (0,0) _ q0 Tryz.underlying34 rfl (by kernel_rfl) ?_)
   refine (KT.out _).mono ?_
   rintro e w6 ⟨rfl,rfl⟩
   clear KT f3 f4 d3 d4
   obtain⟨W,rfl,g8⟩:∃ W,W=(w5.setCell ⟨w3.heap.size,3,none⟩ (.int .i64 t4)).setCell ⟨w3.heap.size,4,none⟩ (.int .i64 t5)∧In F0 w0 (W.alloc (.cells (encT ⟨t1,t2,t3,t4,t5⟩) 34)) (RdB br s5::Cells w3.heap.size (encT ⟨t1,t2,t3,t4,t5⟩) 34::Cells w.heap.size (encT zeroT) 34::R):=⟨_,rfl,G7.out.alloc _⟩
   have q1:(((w5.setCell ⟨w3.heap.size,3,none⟩ (.int .i64 t4)).setCell ⟨w3.heap.size,4,none⟩ (.int .i64 t5)).alloc (.cells (encT ⟨t1,t2,t3,t4,t5⟩) 34)).heap[w3.heap.size]?=some (.cells (encT ⟨t1,t2,t3,t4,t5⟩) 34 (0,0)):=g8.block 1 rfl
   have Q2:=Lib.hid (there_of (g8.block 2 rfl))
   have G8:=Lib.hid (g8.setFull 2 rfl (xs:=(encT ⟨t1,t2,t3,t4,t5⟩).toList) (b:=w.heap.size) (C:=encT zeroT) (T:=34) rfl)
   clear g8 q0
   go_wp2_with (refine wpList_load_row rfl 34 (.tmp 6) rfl w3.heap.size rfl 34 _ (0,0) _ q1 Tryz.underlying34 rfl (by kernel_rfl) ?_;refine wpList_store_mid (op:=⟨none,Op.store 34 (.tmp 2) (.tmp 34),_,_,_,_⟩) (by rfl) 34 (.tmp 2) (.tmp 34) rfl w.heap.size 0 (encT ⟨t1,t2,t3,t4,t5⟩) (by rfl) (by rfl) Q2.out (by kernel_rfl) (encT_all _) ?_)
   exact bodyPost_ret (results_cell_tmp_row Tryz.results164 _ _ w.heap.size 34 _ (0,0) _ rfl (G8.out.block 2 rfl) Tryz.underlying34 rfl (by kernel_rfl)) rfl ⟨rfl,G8.out.sel2 (R1:=[_,_,_]) [0] (by decide) rfl⟩
  ·rw [if_neg hm]
   rw [decide_eq_false hm] at KT
   clear hm
   go_enter Tryz.func164,Tryz.ntmps164
   go_wp2_with fail
   refine KL.out.mono ?_
   rintro e w1 ⟨rfl,rfl⟩
   clear KL
   go_wp2_with fail
   refine HK1.out.mono ?_
   rintro e w1 ⟨rfl,g1⟩
   have G1:=Lib.hid (HK2.out w1 _ g1)
   clear g1 HK1 HK2
   go_wp2_with fail
   refine G1.out.mono ?_
   rintro e w2 ⟨rfl,g2⟩
   have G2:=Lib.hid (HK3.out w2 _ g2)
   clear g2 G1 HK3
   go_wp2_with fail
   refine G2.out.mono ?_
   rintro e w3 ⟨rfl,g3⟩
   have g4:=(g3.cells #[.int .u32 t1,.int .u32 t2,.int .i64 t3,.int .i64 0,.int .i64 0] 34).sel2 (R1:=[_,_,_]) [1,0,2] (by decide) rfl
   have G4:=Lib.hid (HK4.out _ _ g4)
   clear g3 g4 G2 HK4
   go_wp2_with fail
   refine G4.out.mono ?_
   rintro e w4 ⟨rfl,g5⟩
   have G5:=Lib.hid (HK5.out w4 _ g5)
   clear g5 G4 HK5
   go_wp2_with fail
   refine G5.out.mono ?_
   rintro e w5 ⟨rfl,g6⟩
   have f3:w5.frozen? ⟨w3.heap.size,3,none⟩=false:=free_of (g6.block 1 rfl)
   have f4:w5.frozen? ⟨w3.heap.size,4,none⟩=false:=free_of (g6.block 1 rfl)
   have d3:w5.cell? ⟨w3.heap.size,3,none⟩=some (.int .i64 0):=cell_of (g6.block 1 rfl) rfl
   have d4:w5.cell? ⟨w3.heap.size,4,none⟩=some (.int .i64 0):=cell_of (g6.block 1 rfl) rfl
   have g7:In F0 w0 ((w5.setCell ⟨w3.heap.size,3,none⟩ (.int .i64 t4)).setCell ⟨w3.heap.size,4,none⟩ (.int .i64 t5)) (RdB br s5::Cells w3.heap.size (encT ⟨t1,t2,t3,t4,t5⟩) 34::Cells w.heap.size (encT zeroT) 34::R):=by
    have g7:=In.setCs [.int .i64 t4,.int .i64 t5] 3 1 g6 (b:=w3.heap.size) (C:=#[.int .u32 t1,.int .u32 t2,.int .i64 t3,.int .i64 0,.int .i64 0]) (T:=34) rfl
    rw [setL_at (ys:=(encT ⟨t1,t2,t3,t4,t5⟩).toList) (by simp) (by simp)] at g7
    exact g7
   have q0:((w5.setCell ⟨w3.heap.size,3,none⟩ (.int .i64 t4)).setCell ⟨w3.heap.size,4,none⟩ (.int .i64 t5)).heap[w3.heap.size]?=some (.cells (encT ⟨t1,t2,t3,t4,t5⟩) 34 (0,0)):=g7.block 1 rfl
   have G7:=Lib.hid g7
   clear g6 g7 G5
   go_wp2_with (refine wpList_load_row rfl 34 (.tmp 6) rfl w3.heap.size rfl 34 _ (0,0) _ q0 Tryz.underlying34 rfl (by kernel_rfl) ?_)
   refine (KT.out _).mono ?_
   rintro e w6 ⟨rfl,rfl⟩
   clear KT f3 f4 d3 d4
   obtain⟨W,rfl,g8⟩:∃ W,W=(w5.setCell ⟨w3.heap.size,3,none⟩ (.int .i64 t4)).setCell ⟨w3.heap.size,4,none⟩ (.int .i64 t5)∧In F0 w0 (W.alloc (.cells (encT ⟨t1,t2,t3,t4,t5⟩) 34)) (RdB br s5::Cells w3.heap.size (encT ⟨t1,t2,t3,t4,t5⟩) 34::Cells w.heap.size (encT zeroT) 34::R):=⟨_,rfl,G7.out.alloc _⟩
   have Q2:=Lib.hid (there_of (g8.block 2 rfl))
   have G8:=Lib.hid (g8.setFull 2 rfl (xs:=(encT zeroT).toList) (b:=w.heap.size) (C:=encT zeroT) (T:=34) rfl)
   clear g8 q0
   go_wp2_with (refine wpList_store_mid (op:=⟨none,Op.store 34 (.tmp 2) (.tmp 33),_,_,_,_⟩) (by rfl) 34 (.tmp 2) (.tmp 33) rfl w.heap.size 0 (encT zeroT) (by rfl) (by rfl) Q2.out (by kernel_rfl) (encT_all _) ?_)
   exact bodyPost_ret (results_cell_tmp_row Tryz.results164 _ _ w.heap.size 34 _ (0,0) _ rfl (G8.out.block 2 rfl) Tryz.underlying34 rfl (by kernel_rfl)) rfl ⟨rfl,G8.out.sel2 (R1:=[_,_,_]) [0] (by decide) rfl⟩
end
section
variable {α:Type} {P:Program} {kt:TypeId} {ek ev:α→Value}
def tabR (ek ev:α→Value) (L:List α) (k v:Value):Prop:=∃ x∈L,k=ek x∧v=ev x
def TabA (P:Program) (kt:TypeId) (ek ev:α→Value) (b:Nat) (L:List α):Asrt:=fun w F=>F=[b]∧MapR P kt w b (tabR ek ev L) L.length
theorem TabA.framed (b:Nat) (L:List α):Framed (TabA P kt ek ev b L):=
 ⟨fun h hk=>⟨h.1,h.2.keep (hk b (by rw [h.1];simp))⟩,fun h b' hb=>by rw [h.1] at hb;simp at hb;subst hb;exact h.2.lt⟩
theorem TabA.perm {b:Nat} {L L':List α} {w:World} {F:List Nat} (h:TabA P kt ek ev b L w F) (hp:L'.Perm L):TabA P kt ek ev b L' w F:=
 ⟨h.1,by rw [hp.length_eq];exact h.2.congr (fun k v=>⟨fun ⟨x,hx,e⟩=>⟨x,hp.mem_iff.1 hx,e⟩,fun ⟨x,hx,e⟩=>⟨x,hp.mem_iff.2 hx,e⟩⟩)⟩
theorem strike_length {p:α→Bool} {key:Value}:∀ {L:List α},(L.map ek).Nodup→(∀ x∈L,p x=true↔ek x≠key) →
  ((∃ x∈L,ek x=key)→(L.filter p).length+1=L.length)∧((∀ x∈L,ek x≠key)→L.filter p=L)
 | [],_,_=>⟨fun ⟨x,hx,_⟩=>by simp at hx,fun _=>rfl⟩
 | y::r,hn,hp=>by
  obtain⟨n1,n2⟩:=List.nodup_cons.1 hn
  obtain⟨i1,i2⟩:=strike_length n2 (fun x hx=>hp x (List.mem_cons_of_mem _ hx))
  have hy:=hp y (by simp)
  constructor
  ·rintro ⟨x,hx,e⟩
   by_cases hye:ek y=key
   ·have:p y=false:=by
     cases h:p y with
     | false=>rfl
     | true=>exact absurd hye (hy.1 h)
    have hr:r.filter p=r:=i2 (fun z hz e2=>n1 (by rw [hye,← e2];exact List.mem_map_of_mem hz))
    rw [List.filter_cons,if_neg (by simp [this]),hr];rfl
   ·have:p y=true:=hy.2 hye
    have hx':x∈r:=by
     rcases List.mem_cons.1 hx with rfl | hx
     ·exact absurd e hye
     ·exact hx
    rw [List.filter_cons,if_pos this,List.length_cons,List.length_cons,i1 ⟨x,hx',e⟩]
  ·intro h
   rw [List.filter_cons,if_pos (hy.2 (h y (by simp))),i2 (fun x hx=>h x (List.mem_cons_of_mem _ hx))]
variable {F0:List Nat} {w0 w:World} {R:List Asrt} {b:Nat} {L:List α} {mt et:TypeId} {key:Value} {kl:Lit}
theorem tab_look (h:In F0 w0 w R) (i:Nat) (hA:R[i]?=some (TabA P kt ek ev b L)) (K:Keyed P kt) (hmt:P.underlying mt=some (.map kt et)) {z:Value} (hz:(zeroValue et).run P w=.ok z w) (hkey:keyOf P kt key=some kl) (c:Bool) :
  (∃ x∈L,ek x=key∧(Instr.lookup mt (.map (some b)) key c).run P w=.ok (if c then .tuple #[ev x,.bool true] else ev x) w) ∨
  ((∀ x∈L,ek x≠key)∧(Instr.lookup mt (.map (some b)) key c).run P w=.ok (if c then .tuple #[z,.bool false] else z) w):=by
 obtain⟨F,_,hm⟩:=h.get i hA
 rcases hm.look K hmt hz hkey c with ⟨v,⟨x,hx,e1,rfl⟩,hr⟩|⟨hn,hr⟩
 ·exact Or.inl ⟨x,hx,e1.symm,hr⟩
 ·exact Or.inr ⟨fun x hx e=>hn (ev x) ⟨x,hx,e.symm,rfl⟩,hr⟩
theorem tab_put (h:In F0 w0 w R) (i:Nat) (hA:R[i]?=some (TabA P kt ek ev b L)) (K:Keyed P kt) (hmt:P.underlying mt=some (.map kt et)) (y:α) (hkey:keyOf P kt (ek y)=some kl) (hn:(L.map ek).Nodup) (p:α→Bool) (hp:∀ x∈L,p x=true↔ek x≠ek y) :
  ∃ w',(Instr.mapUpdate mt (.map (some b)) (ek y) (ev y)).run P w=.ok () w'∧Turn b w w'∧In F0 w0 w' (R.set i (TabA P kt ek ev b (y::L.filter p))):=by
 obtain⟨F,_,hm⟩:=h.get i hA
 obtain⟨w',hr,ht,hc⟩:=hm.put K hmt (val:=ev y) hkey
 obtain⟨s1,s2⟩:=strike_length hn hp
 have hR:∀ k v,tabR ek ev (y::L.filter p) k v↔(k=ek y∧v=ev y)∨(k≠ek y∧tabR ek ev L k v):=by
  intro k v
  constructor
  ·rintro ⟨x,hx,rfl,rfl⟩
   rcases List.mem_cons.1 hx with rfl | hx
   ·exact Or.inl ⟨rfl,rfl⟩
   ·obtain⟨hx,hpx⟩:=List.mem_filter.1 hx
    exact Or.inr ⟨(hp x hx).1 hpx,x,hx,rfl,rfl⟩
  ·rintro (⟨rfl,rfl⟩|⟨hne,x,hx,rfl,rfl⟩)
   ·exact⟨y,by simp,rfl,rfl⟩
   ·exact⟨x,List.mem_cons_of_mem _ (List.mem_filter.2 ⟨hx,(hp x hx).2 hne⟩),rfl,rfl⟩
 refine⟨w',hr,ht,h.step i hA (TabA.framed _ _) fun F hF=>⟨F,⟨hF.1,?_⟩,Grew.refl _ _,?_⟩⟩
 ·rcases hc with ⟨⟨v,x,hx,e,_⟩,hc⟩|⟨hno,hc⟩
  ·rw [List.length_cons,s1 ⟨x,hx,e.symm⟩]
   exact hc.congr hR
  ·have:L.filter p=L:=s2 (fun x hx e=>hno (ev x) ⟨x,hx,e.symm,rfl⟩)
   rw [this] at hR ⊢
   exact hc.congr hR
 ·rw [hF.1];exact ht.mod
theorem tab_del (h:In F0 w0 w R) (i:Nat) (hA:R[i]?=some (TabA P kt ek ev b L)) (K:Keyed P kt) (hmt:P.underlying mt=some (.map kt et)) (hkey:keyOf P kt key=some kl) (hn:(L.map ek).Nodup) (p:α→Bool) (hp:∀ x∈L,p x=true↔ek x≠key) (k2 ty:TypeId) :
  ∃ w',(Builtin.delete_ #[mt,k2] ty #[.map (some b),key]).run P w=.ok (.tuple #[]) w'∧Turn b w w'∧In F0 w0 w' (R.set i (TabA P kt ek ev b (L.filter p))):=by
 obtain⟨F,_,hm⟩:=h.get i hA
 obtain⟨w',hr,ht,hc⟩:=hm.del K hmt hkey k2 ty
 obtain⟨s1,s2⟩:=strike_length hn hp
 have hR:∀ k v,tabR ek ev (L.filter p) k v↔(k≠key∧tabR ek ev L k v):=by
  intro k v
  constructor
  ·rintro ⟨x,hx,rfl,rfl⟩
   obtain⟨hx,hpx⟩:=List.mem_filter.1 hx
   exact⟨(hp x hx).1 hpx,x,hx,rfl,rfl⟩
  ·rintro ⟨hne,x,hx,rfl,rfl⟩
   exact⟨x,List.mem_filter.2 ⟨hx,(hp x hx).2 hne⟩,rfl,rfl⟩
 refine⟨w',hr,ht,h.step i hA (TabA.framed _ _) fun F hF=>⟨F,⟨hF.1,?_⟩,Grew.refl _ _,?_⟩⟩
 ·rcases hc with ⟨⟨v,x,hx,e,_⟩,hc,_⟩|⟨hno,hc⟩
  ·have e2:=s1 ⟨x,hx,e.symm⟩
   have e3:(L.filter p).length=L.length - 1:=by omega
   rw [e3]
   exact hc.congr hR
  ·have:L.filter p=L:=s2 (fun x hx e=>hno (ev x) ⟨x,hx,e.symm,rfl⟩)
   rw [this] at hR ⊢
   exact hc.congr hR
 ·rw [hF.1];exact ht.mod
theorem tab_len (h:In F0 w0 w R) (i:Nat) (hA:R[i]?=some (TabA P kt ek ev b L)) (hmt:P.underlying mt=some (.map kt et)) (ty:TypeId):(Builtin.len_ #[mt] ty #[.map (some b)]).run P w=.ok (.int .i64 L.length) w:=by
 obtain⟨F,_,hm⟩:=h.get i hA
 exact hm.len hmt ty
theorem tab_make (h:In F0 w0 w R) (P:Program) (kt:TypeId) (ek ev:α→Value):In F0 w0 (w.alloc (.map #[] 0)) (TabA P kt ek ev w.heap.size []::R):=by
 obtain⟨F,hs,hF⟩:=h.star
 have fr:=Framed.star h.framed
 refine⟨fun B hB=>?_,⟨[w.heap.size]++F,⟨[w.heap.size],F,⟨rfl,(map_made P kt w).congr (fun k v=>by simp [tabR])⟩,fr.keep hs (fun b hb=>hp_alloc_old (fr.lt hs b hb)),?_,rfl⟩,?_⟩,h.mod.alloc _⟩
 ·rcases List.mem_cons.1 hB with rfl | hB
  ·exact TabA.framed _ _
  ·exact h.framed B hB
 ·intro b hb hbF
  simp at hb;subst hb
  exact absurd (fr.lt hs _ hbF) (by omega)
 ·intro b hb
  simp at hb
  rcases hb with rfl | hb
  ·exact Or.inr h.mod.size
  ·exact hF b hb
theorem tab_perm (h:In F0 w0 w R) (i:Nat) (hA:R[i]?=some (TabA P kt ek ev b L)) {L':List α} (hp:L'.Perm L):In F0 w0 w (R.set i (TabA P kt ek ev b L')):=
 h.imp i hA (TabA.framed _ _) fun F hF=>hF.perm hp
end
section
variable {α:Type} {P:Program} {kt:TypeId} {ek ev:α→Value}
structure IterW (P:Program) (kt:TypeId) (ek ev:α→Value) (b r:Nat) (L done:List α) (w:World):Prop where
 map:MapR P kt w b (tabR ek ev L) L.length
 keys:(L.map ek).Nodup
 sub:∀ y∈done,y∈L
 once:done.Nodup
 it:∃ es clock since seen c0,w.heap[b]?=some (.map es clock)∧w.heap[r]?=some (.mapIter (some b) since seen c0)∧Stamped es clock∧(∀ x∈es.toList,x.born < since)∧since≤c0∧since≤clock ∧
  (∀ x∈es.toList,∀ y∈L,x.key=ek y→(seen.contains x.born=true↔y∈done))
theorem tab_val {b:Nat} {L:List α} {w:World} (h:MapR P kt w b (tabR ek ev L) L.length):∃ es clock,w.heap[b]?=some (.map es clock)∧Stamped es clock∧(∀ x∈es.toList,∃ y∈L,x.key=ek y∧x.val=ev y)∧(∀ y∈L,∃ x∈es.toList,x.key=ek y∧x.val=ev y)∧es.size=L.length:=by
 obtain⟨es,clock,h1,h2,h3,h4,h5⟩:=h.ex
 refine⟨es,clock,h1,h2,fun x hx=>?_,fun y hy=>?_,h5⟩
 ·obtain⟨i,hi,rfl⟩:=List.mem_iff_getElem.1 hx
  obtain⟨y,hy,e1,e2⟩:=(h4 es[i].key es[i].val).2 ⟨i,es[i],by simp at hi ⊢,rfl,rfl⟩
  exact⟨y,hy,e1,e2⟩
 ·obtain⟨i,x,hx,e1,e2⟩:=(h4 (ek y) (ev y)).1 ⟨y,hy,rfl,rfl⟩
  exact⟨x,by rw [Array.mem_toList_iff];exact Array.mem_of_getElem? hx,e1,e2⟩
theorem ek_inj {L:List α} (hk:(L.map ek).Nodup) {x y:α} (hx:x∈L) (hy:y∈L) (h:ek x=ek y):x=y:=by
 obtain⟨i,hi,rfl⟩:=List.mem_iff_getElem.1 hx
 obtain⟨j,hj,rfl⟩:=List.mem_iff_getElem.1 hy
 have:(L.map ek)[i]?=(L.map ek)[j]?:=by simp [hi,hj,h]
 have:=(List.getElem?_inj (by simpa using hi) hk).1 this
 subst this;rfl
theorem IterW.keep {b r:Nat} {L done:List α} {w w':World} (h:IterW P kt ek ev b r L done w) (h1:w'.heap[b]?=w.heap[b]?) (h2:w'.heap[r]?=w.heap[r]?):IterW P kt ek ev b r L done w':=by
 obtain⟨m,k,s,o,es,clock,since,seen,c0,e1,e2,e3⟩:=h
 exact⟨m.keep h1,k,s,o,es,clock,since,seen,c0,h1.trans e1,h2.trans e2,e3⟩
theorem IterW.of_walks {b r:Nat} {L done:List α} {w w':World} (h:IterW P kt ek ev b r L done w) (hk:KeepsWalks w w'):IterW P kt ek ev b r L done w'∧w'.rangeLeft b r=w.rangeLeft b r:=by
 obtain⟨es,clock,since,seen,c0,e1,e2,e3⟩:=h.it
 have h1:=hk.same b _ e1 rfl
 have h2:=hk.same r _ e2 rfl
 exact⟨h.keep (h1.trans e1.symm) (h2.trans e2.symm),by simp only [World.rangeLeft,e1,e2,h1,h2]⟩
theorem IterW.walk {b r:Nat} {L done:List α} {w:World} (h:IterW P kt ek ev b r L done w):∃ o:Obj,w.heap[r]?=some o∧o.isWalk=true:=by
 obtain⟨es,clock,since,seen,c0,e1,e2,e3⟩:=h.it
 exact⟨_,e2,rfl⟩
theorem IterW.lt {b r:Nat} {L done:List α} {w:World} (h:IterW P kt ek ev b r L done w):b < w.heap.size∧r < w.heap.size∧r≠b:=by
 obtain⟨m,k,s,o,es,clock,since,seen,c0,e1,e2,e3⟩:=h
 refine⟨hp_lt e1,hp_lt e2,?_⟩
 rintro rfl;rw [e1] at e2;cases e2
theorem iter_range {b:Nat} {L:List α} {w:World} (h:MapR P kt w b (tabR ek ev L) L.length) (hk:(L.map ek).Nodup) {t et:TypeId} (ht:P.underlying t=some (.map kt et)) :
  ∃ o,(Instr.range t (.map (some b))).run P w=.ok (.pointer (some ⟨w.heap.size,0,none⟩)) (w.alloc o)∧IterW P kt ek ev b w.heap.size L [] (w.alloc o):=by
 obtain⟨es,clock,e1,e2,e3,e4,e5⟩:=tab_val h
 refine⟨.mapIter (some b) clock #[] clock,run_range_map w t kt et b es clock ht e1,h.keep (hp_alloc_old (hp_lt e1)),hk,by simp,by simp,es,clock,clock,#[],clock,(hp_alloc_old (hp_lt e1)).trans e1,hp_alloc_new,e2,e2.1,Nat.le_refl _,Nat.le_refl _,fun x _ y _ _=>by simp⟩
theorem iter_next [DecidableEq α] {b r:Nat} {L done:List α} {w:World} (h:IterW P kt ek ev b r L done w) (ty:TypeId) :
  (done.Perm L∧(Instr.next (.pointer (some ⟨r,0,none⟩)) false ty).run P w=.ok (.tuple #[.bool false]) w) ∨
  ∃ y∈L,y ∉ done∧∃ w',(Instr.next (.pointer (some ⟨r,0,none⟩)) false ty).run P w=.ok (.tuple #[.bool true,ek y,ev y]) w'∧IterW P kt ek ev b r L (done++[y]) w'∧w.grownBy w' (some r)∧w'.heap.size=w.heap.size∧w'.rangeLeft b r < w.rangeLeft b r ∧
   (Instr.entry (.pointer (some ⟨r,0,none⟩))).run P w'=.ok (.tuple #[ek y,ev y]) w':=by
 have hlt:=h.lt
 obtain⟨m,hk,hsub,hon,es,clock,since,seen,c0,hb,hr,hst,hold,hsc,hsk,hseen⟩:=h
 obtain⟨es',clock',hb',_,e3,e4,_⟩:=tab_val m
 rw [hb] at hb';cases hb'
 have hst':=(stamped_iff es clock).1 hst
 rcases run_next_at (P:=P) w ty r b since c0 seen es clock hr hb hold hsc with ⟨h0,hrun⟩|⟨e,he,w1,hal,hrun⟩
 ·refine Or.inl ⟨(List.perm_ext_iff_of_nodup hon (List.Pairwise.of_map ek (fun a b (h:ek a≠ek b)=>fun e=>h (by rw [e])) hk)).2 (fun y=>⟨hsub y,fun hy=>?_⟩),hrun⟩
  obtain⟨x,hx,ex,_⟩:=e4 y hy
  exact (hseen x hx y hy ex).1 (all_seen es seen h0 x hx)
 ·obtain⟨hem,hes⟩:=mem_left he
  obtain⟨y,hy,ey,ev'⟩:=e3 e hem
  have hyd:y ∉ done:=fun hd=>by
   have:=(hseen e hem y hy ey).2 hd
   rw [hes] at this;cases this
  have hr1:w1.heap[r]?=some (.mapIter (some b) since seen c0):=by rcases hal with rfl | rfl <;> exact hr
  have hb1:w1.heap[b]?=some (.map es clock):=by rcases hal with rfl | rfl <;> exact hb
  have hset:=heap_set (o':=.mapIter (some b) since (seen.push e.born) clock) hr1
  have hbn:(setBlock w1 r (.mapIter (some b) since (seen.push e.born) clock)).heap[b]?=some (.map es clock):=(hset.2 b (fun e1=>hlt.2.2 e1.symm)).trans hb1
  refine Or.inr ⟨y,hy,hyd,setBlock w1 r (.mapIter (some b) since (seen.push e.born) clock),by rw [← ey,← ev'];exact hrun,⟨m.keep (hbn.trans hb.symm),hk,?_,?_,es,clock,since,seen.push e.born,clock,hbn,hset.1,hst,hold,hsk,hsk,?_⟩,?_,?_,?_,?_⟩
  ·intro z hz
   rcases List.mem_append.1 hz with hz | hz
   ·exact hsub z hz
   ·simp at hz;subst hz;exact hy
  ·exact List.nodup_append.2 ⟨hon,by simp,fun a ha c hc=>by simp at hc;subst hc;exact fun e=>hyd (e ▸ ha)⟩
  ·intro x hx z hz ez
   rw [contains_push]
   have hzz:=hseen x hx z hz ez
   have hbe:(x.born == e.born)=true↔z=y:=by
    rw [beq_iff_eq]
    constructor
    ·intro hbn'
     have:x=e:=born_inj hst'.2.1 hx hem hbn'
     subst this
     exact ek_inj hk hz hy (ez.symm.trans ey)
    ·rintro rfl
     have:x=e:=entry_eq_of_key hst'.2.2 hx hem (ez.trans ey.symm)
     rw [this]
   simp only [Bool.or_eq_true,List.mem_append,List.mem_singleton]
   rw [hzz,hbe]
  ·rcases hal with rfl | rfl <;> exact⟨rfl,rfl,rfl,by simp [setBlock],fun i _ hi=>hset.2 i (fun e1=>hi (by rw [e1]))⟩
  ·rcases hal with rfl | rfl <;> simp [setBlock]
  ·unfold World.rangeLeft
   have h9:(setBlock w1 r (.mapIter (some b) since (seen.push e.born) clock)).heap[r]?=some (.mapIter (some b) since (seen.push e.born) clock):=hset.1
   rw [hbn,h9,hb,hr]
   exact left_shrinks es seen e he
  ·rw [← ey,← ev']
   exact run_entry_at _ r b since seen es clock e hset.1 hbn hem hst'.2.1
def IterA (P:Program) (kt:TypeId) (ek ev:α→Value) (b r:Nat) (L done:List α):Asrt:=fun w F=>F=[b,r]∧IterW P kt ek ev b r L done w
theorem IterA.framed (b r:Nat) (L done:List α):Framed (IterA P kt ek ev b r L done):=
 ⟨fun h hk=>⟨h.1,h.2.keep (hk b (by rw [h.1];simp)) (hk r (by rw [h.1];simp))⟩,fun h b' hb=>by
  rw [h.1] at hb;simp at hb
  rcases hb with rfl | rfl
  ·exact h.2.lt.1
  ·exact h.2.lt.2.1⟩
variable {F0:List Nat} {w0 w:World} {R:List Asrt} {b r:Nat} {L done:List α} {t et:TypeId}
theorem tab_range (h:In F0 w0 w R) (i:Nat) (hA:R[i]?=some (TabA P kt ek ev b L)) (hk:(L.map ek).Nodup) (ht:P.underlying t=some (.map kt et)) :
  ∃ o,(Instr.range t (.map (some b))).run P w=.ok (.pointer (some ⟨w.heap.size,0,none⟩)) (w.alloc o)∧In F0 w0 (w.alloc o) (R.set i (IterA P kt ek ev b w.heap.size L [])):=by
 obtain⟨F,hF,hm⟩:=h.get i hA
 obtain⟨o,h1,h2⟩:=iter_range hm hk ht
 refine⟨o,h1,h.step i hA (IterA.framed _ _ _ _) fun F hF=>⟨[b,w.heap.size],⟨rfl,h2⟩,fun x hx=>?_,(Mod.refl F w).alloc o⟩⟩
 simp at hx
 rcases hx with rfl | rfl
 ·left;rw [hF.1];simp
 ·right;exact Nat.le_refl _
theorem tab_next [DecidableEq α] (h:In F0 w0 w R) (i:Nat) (hA:R[i]?=some (IterA P kt ek ev b r L done)) (ty:TypeId) :
  (done.Perm L∧(Instr.next (.pointer (some ⟨r,0,none⟩)) false ty).run P w=.ok (.tuple #[.bool false]) w) ∨
  ∃ y∈L,y ∉ done∧∃ w',(Instr.next (.pointer (some ⟨r,0,none⟩)) false ty).run P w=.ok (.tuple #[.bool true,ek y,ev y]) w'∧In F0 w0 w' (R.set i (IterA P kt ek ev b r L (done++[y])))∧w'.rangeLeft b r < w.rangeLeft b r ∧
   (Instr.entry (.pointer (some ⟨r,0,none⟩))).run P w'=.ok (.tuple #[ek y,ev y]) w':=by
 obtain⟨F,hF,hm⟩:=h.get i hA
 rcases iter_next hm ty with ⟨h1,h2⟩|⟨y,hy,hyd,w',h1,h2,h3,h4,hl,h5⟩
 ·exact Or.inl ⟨h1,h2⟩
 ·refine Or.inr ⟨y,hy,hyd,w',h1,h.step i hA (IterA.framed _ _ _ _) fun F hF=>⟨F,⟨hF.1,h2⟩,Grew.refl _ _,(Mod.refl F w).of_grown h3 (fun k e=>Or.inl (by cases e;rw [hF.1];simp))⟩,hl,h5⟩
theorem tab_done (h:In F0 w0 w R) (i:Nat) (hA:R[i]?=some (IterA P kt ek ev b r L done)):In F0 w0 w (R.set i (TabA P kt ek ev b L)):=
 h.step i hA (TabA.framed _ _) fun F hF=>⟨[b],⟨rfl,hF.2.map⟩,fun x hx=>by simp at hx;subst hx;left;rw [hF.1];simp,Mod.refl _ _⟩
end
end Go.Proofs.YtpmmiljakbojaaaGreat
