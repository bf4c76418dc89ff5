/- Rows.StoreRefusesSaid -/
import Derived.Test.YtpmmiljakbojaaaGreatRF27
import Derived.Test.YtpmmiljakbojaaaGreatRF28
import Derived.Test.YtpmmiljakbojaaaGreatRF22
import Derived.Test.YtpmmiljakbojaaaGreatRF9
namespace Go.Proofs.YtpmmiljakbojaaaGreat
open Go.RowKit
set_option linter.unusedVariables false
set_option maxHeartbeats 64000000
set_option maxRecDepth 100000
section
variable {F0:List Nat} {w0 w:World} {R:List Asrt} {sb lb bd stb:Nat} {v:StD}
theorem OfPost.ok (hok:OkSt v) {e:Ending} {w':World} (h:OfPost v F0 w0 R e w'):∃ tb,e=.returned (.tuple #[pR tb,.int .i64 0])∧In F0 w0 w' (StA tb v::R):=by
 unfold OfPost at h;rw [ofSt_ok hok] at h;exact h
def ViewPost (v:StD) (F0:List Nat) (w0:World) (R:List Asrt) (e:Ending) (w':World):Prop:=∃ A a D d F f,e=.returned (agSt v A a D d F f)∧In F0 w0 w' (BkR (.slice A v.bks.length a) v.bks::DrR (.slice D v.drs.length d) v.drs::FlR (.slice F v.fls.length f) v.fls::R)
theorem there_at {W:World} {b:Nat} {C:Array Value} {T:TypeId} (h:W.heap[b]?=some (.cells C T (0,0))) (o m:Nat) (hm:o+m≤C.size):W.there b o m:=fun j hj=>by
 refine⟨?_,free_of h⟩
 rw [cell_of h (Array.getElem?_eq_getElem (by omega))];rfl
theorem o_stview' {s:StD} (h:In F0 w0 w (StA sb s::R)):Calls Tryz.prog 21 #[pR sb] w (ViewPost s F0 w0 (StA sb s::R)):=o_stview h
theorem o_soview {A D F:Option Addr} {a d f:Nat} (hv:AStV F0 w0 R v A D F) (hn:A=none→a=0) (hok:OkSt v) (h:In F0 w0 w R):Calls Tryz.prog 41 #[agSt v A a D d F f] w (ViewPost v F0 w0 R):=by
 obtain⟨w2,hw2⟩:∃ w2,w2=(w.alloc (.cells #[.int .i64 v.gen,.slice A v.bks.length a,.slice D v.drs.length d,.slice F v.fls.length f] 59)).alloc (.cells #[.int .i64 0,.slice none 0 0,.slice none 0 0,.slice none 0 0] 59):=⟨_,rfl⟩
 have h2:=(h.cells #[.int .i64 v.gen,.slice A v.bks.length a,.slice D v.drs.length d,.slice F v.fls.length f] 59).cells #[.int .i64 0,.slice none 0 0,.slice none 0 0,.slice none 0 0] 59
 simp only [World.size_alloc] at h2
 rw [← hw2] at h2
 obtain⟨l1,l2,l3⟩:=hok.lens
 have K1:=Lib.hid (o_stof (a:=a) (d:=d) (f:=f) (hv.moreL [Cells (w.heap.size+1) #[.int .i64 0,.slice none 0 0,.slice none 0 0,.slice none 0 0] 59,Cells w.heap.size #[.int .i64 v.gen,.slice A v.bks.length a,.slice D v.drs.length d,.slice F v.fls.length f] 59]) hn (by omega) (by omega) (by omega) (fun r hr=>(WfR.recs hok r hr).1) h2)
 have HW:=Lib.hid hw2
 have HOK:=Lib.hid hok
 have e1:w2.cell? ⟨w.heap.size,0,none⟩=some (.int .i64 v.gen):=cell_of (h2.block 1 rfl) rfl
 clear h h2 hw2 hv hok l1 l2 l3 e1
 go_enter Tryz.func41,Tryz.ntmps41
 go_wp2_with fail
 rw [← HW.out]
 clear HW
 refine K1.out.mono ?_
 intro e w3 hp
 obtain⟨tb,rfl,g3⟩:=hp.ok HOK.out
 have K2:=Lib.hid (o_stview' g3)
 clear g3 K1 hp
 go_wp2_with fail
 refine K2.out.mono ?_
 rintro e w4 ⟨A1,a1,D1,d1,F1,f1,rfl,g4⟩
 have Q1:=Lib.hid (there_of (g4.block 4 rfl))
 have G:=Lib.hid (g4.setFull 4 rfl (xs:=[.int .i64 v.gen,.slice A1 v.bks.length a1,.slice D1 v.drs.length d1,.slice F1 v.fls.length f1]) (b:=w.heap.size+1) (C:=#[.int .i64 0,.slice none 0 0,.slice none 0 0,.slice none 0 0]) (T:=59) rfl)
 clear g4 K2
 go_wp2_with (refine wpList_store_mid (op:=⟨none,Op.store 59 (.tmp 2) (.tmp 13),_,_,_,_⟩) (by rfl) 59 (.tmp 2) (.tmp 13) rfl (w.heap.size+1) 0 #[.int .i64 v.gen,.slice A1 v.bks.length a1,.slice D1 v.drs.length d1,.slice F1 v.fls.length f1] (by rfl) (by rfl) Q1.out (by kernel_rfl) (st4_all2 _ _ _ _ _ _ _ _ _ _) ?_)
 exact bodyPost_ret (results_cell_row Tryz.results41 _ _ (w.heap.size+1) 59 _ (0,0) _ rfl (G.out.block 4 rfl) Tryz.underlying59 rfl (by kernel_rfl)) rfl ⟨_,_,_,_,_,_,rfl,G.out.sel2 (R1:=[_,_,_,_,_,_]) [0,1,2] (by decide) rfl⟩
theorem noneR_of {T:TypeId} {k n c:Nat} {A:Option Addr} {xs:List Value} (i:Nat) (h:In F0 w0 w R) (hA:R[i]?=some (RowA T k (.slice A n c) n xs)):A=none→c=0:=by
 obtain⟨F,r⟩:=h.get i hA
 exact fun e=>RowA.noc r e
theorem o_sosure (hok:OkSt v) (h:In F0 w0 w (SoA sb lb stb v::R)):Calls Tryz.prog 18 #[pR sb] w (ViewPost v F0 w0 (SoA sb lb stb v::R)):=by
 obtain⟨A,a,D,d,F,f,g0⟩:=h.soOpen
 have g1:=g0.cells #[.int .i64 0,.slice none 0 0,.slice none 0 0,.slice none 0 0] 59
 have c0:w.cell? ⟨sb,2,none⟩=some (.int .i64 v.gen):=cell_of (g0.block 0 rfl) rfl
 have c1:w.cell? ⟨sb,3,none⟩=some (.slice A v.bks.length a):=cell_of (g0.block 0 rfl) rfl
 have c2:w.cell? ⟨sb,4,none⟩=some (.slice D v.drs.length d):=cell_of (g0.block 0 rfl) rfl
 have c3:w.cell? ⟨sb,5,none⟩=some (.slice F v.fls.length f):=cell_of (g0.block 0 rfl) rfl
 have K1:=Lib.hid (o_soview (a:=a) (d:=d) (f:=f) (stV_of 2 3 4 rfl rfl rfl) (noneR_of 2 g1 rfl) hok g1)
 have hsb:sb < w.heap.size:=hp_lt (g0.block 0 rfl)
 clear h g0 g1 hok
 go_enter Tryz.func18,Tryz.ntmps18
 go_wp2_with fail
 refine K1.out.mono ?_
 rintro e w4 ⟨A1,a1,D1,d1,F1,f1,rfl,g4⟩
 have Q1:=Lib.hid (there_of (g4.block 3 rfl))
 have G:=Lib.hid (g4.setFull 3 rfl (xs:=[.int .i64 v.gen,.slice A1 v.bks.length a1,.slice D1 v.drs.length d1,.slice F1 v.fls.length f1]) (b:=w.heap.size) (C:=#[.int .i64 0,.slice none 0 0,.slice none 0 0,.slice none 0 0]) (T:=59) rfl)
 clear g4 K1 c0 c1 c2 c3
 go_wp2_with (refine wpList_store_mid (op:=⟨none,Op.store 59 (.tmp 2) (.tmp 10),_,_,_,_⟩) (by rfl) 59 (.tmp 2) (.tmp 10) rfl w.heap.size 0 #[.int .i64 v.gen,.slice A1 v.bks.length a1,.slice D1 v.drs.length d1,.slice F1 v.fls.length f1] (by rfl) (by rfl) Q1.out (by kernel_rfl) (st4_all2 _ _ _ _ _ _ _ _ _ _) ?_)
 exact bodyPost_ret (results_cell_row Tryz.results18 _ _ w.heap.size 59 _ (0,0) _ rfl (G.out.block 3 rfl) Tryz.underlying59 rfl (by kernel_rfl)) rfl ⟨_,_,_,_,_,_,rfl,(In.soClose (s:=v) (lb:=lb) (stb:=stb) (G.out.sel2 (R1:=[_,_,_,_,_,_,_,_]) [4,5,6,7,0,1,2] (by decide) rfl)).sel2 (R1:=[_,_,_,_]) [1,2,3,0] (by decide) rfl⟩
theorem o_sosync {s:SD} (hl:LgOk s.2.l) (ho:s.1.ops≤99999000) (h:In F0 w0 w (SoL sb lb bd stb s R)):Calls Tryz.prog 16 #[pR sb] w fun e w'=>e=.returned (.int .i64 (syncS s).2)∧In F0 w0 w' (SoL sb lb bd stb (syncS s).1 R):=by
 obtain⟨A,a,D,d,F,f,g0⟩:=h.soOpen
 have c0:w.cell? ⟨sb,0,none⟩=some (dptr lb):=cell_of (g0.block 0 rfl) rfl
 have K1:=Lib.hid (o_lsync (g0.sel2 (R1:=[_,_,_,_,_,_,_]) (R2:=R) [4,5,6,0,1,2,3] (by decide) rfl) hl ho)
 clear h g0 hl ho
 by_cases he:(syncL (s.1,s.2.l)).2=0
 ·have e1:(syncS s).1=((syncL (s.1,s.2.l)).1.1,⟨(syncL (s.1,s.2.l)).1.2,s.2.st,s.2.st⟩):=by unfold syncS;rw [if_pos he]
  have e2:(syncS s).2=0:=he
  rw [e1,e2]
  go_enter Tryz.func16,Tryz.ntmps16
  go_wp2_with fail
  refine K1.out.mono ?_
  rintro e w1 ⟨rfl,g1⟩
  clear K1 c0
  rw [he]
  have c1:w1.cell? ⟨sb,1,none⟩=some (pR stb):=cell_of (g1.block 3 rfl) rfl
  have K2:=Lib.hid (o_stview' (g1.sel2 (R1:=[_,_,_,_,_,_,_]) (R2:=R) [2,0,1,3,4,5,6] (by decide) rfl))
  clear g1 he e1 e2
  go_wp2_with fail
  refine K2.out.mono ?_
  rintro e w2 ⟨A1,a1,D1,d1,F1,f1,rfl,g2⟩
  have Q1:=Lib.hid (there_at (g2.block 6 rfl) 2 4 (Nat.le_refl 6))
  have g3:=g2.setCs [.int .i64 s.2.st.gen,.slice A1 s.2.st.bks.length a1,.slice D1 s.2.st.drs.length d1,.slice F1 s.2.st.fls.length f1] 2 (b:=sb) (T:=71) (C:=soC lb stb s.2.sure.gen (.slice A s.2.sure.bks.length a) (.slice D s.2.sure.drs.length d) (.slice F s.2.sure.fls.length f)) 6 rfl
  have G:Hid (In F0 w0 (w2.setCells sb 2 [.int .i64 s.2.st.gen,.slice A1 s.2.st.bks.length a1,.slice D1 s.2.st.drs.length d1,.slice F1 s.2.st.fls.length f1]) (SoL sb lb bd stb ((syncL (s.1,s.2.l)).1.1,⟨(syncL (s.1,s.2.l)).1.2,s.2.st,s.2.st⟩) R)):=Lib.hid (In.soClose (s:=s.2.st) (lb:=lb) (stb:=stb) (g3.sel2 (R1:=[_,_,_,_,_,_,_,_,_,_]) (R2:=R) [6,0,1,2,4,5,3] (by decide) rfl))
  clear g2 g3 K2 c1
  go_wp2_with (refine wpList_store_mid (op:=⟨none,Op.store 59 (.tmp 20) (.tmp 18),_,_,_,_⟩) (by rfl) 59 (.tmp 20) (.tmp 18) rfl sb 2 #[.int .i64 s.2.st.gen,.slice A1 s.2.st.bks.length a1,.slice D1 s.2.st.drs.length d1,.slice F1 s.2.st.fls.length f1] (by rfl) (by rfl) Q1.out (by kernel_rfl) (st4_all2 _ _ _ _ _ _ _ _ _ _) ?_)
  go_ret
  exact⟨rfl,G.out⟩
 ·have e1:(syncS s).1=((syncL (s.1,s.2.l)).1.1,⟨(syncL (s.1,s.2.l)).1.2,s.2.st,s.2.sure⟩):=by unfold syncS;rw [if_neg he]
  have e2:(syncS s).2=(syncL (s.1,s.2.l)).2:=rfl
  rw [e1,e2]
  go_enter Tryz.func16,Tryz.ntmps16
  go_wp2_with fail
  refine K1.out.mono ?_
  rintro e w1 ⟨rfl,g1⟩
  clear K1 c0
  have G:Hid (In F0 w0 w1 (SoL sb lb bd stb ((syncL (s.1,s.2.l)).1.1,⟨(syncL (s.1,s.2.l)).1.2,s.2.st,s.2.sure⟩) R)):=Lib.hid (In.soClose (s:=s.2.sure) (lb:=lb) (stb:=stb) (g1.sel2 (R1:=[_,_,_,_,_,_,_]) (R2:=R) [3,4,5,6,0,1,2] (by decide) rfl))
  have q:((syncL (s.1,s.2.l)).2 == 0)=false:=by rw [beq_eq_false_iff_ne];exact he
  clear g1 e1 e2
  go_wp2_with fail
  go_ret
  exact⟨rfl,G.out⟩
end
theorem rdN_lt (n:Nat) (s:RdS):rdN n s < 256 ^ n:=by
 unfold rdN
 refine Nat.lt_of_lt_of_le (num_lt _) (Nat.pow_le_pow_right (by decide) ?_)
 unfold rdTake
 split
 ·simp
 ·split
  ·simp
  ·simp;omega
theorem tupAt_wf (s:RdS):WfT (tupAt s):=by
 have h1:=rdN_lt 4 s
 have h2:=rdN_lt 4 (rdS 4 s)
 have h3:=rdN_lt 1 (rdS 4 (rdS 4 s))
 have h4:=rdN_lt 2 (rdS 1 (rdS 4 (rdS 4 s)))
 have h5:=rdN_lt 2 (rdS 2 (rdS 1 (rdS 4 (rdS 4 s))))
 unfold tupAt
 simp only [Nat.reducePow] at h1 h2 h3 h4 h5
 constructor <;> (simp only;omega)
theorem zeroT_wf:WfT zeroT:=by constructor <;> decide
theorem rdTup_wf (s:RdS):WfT (rdTup s).1:=by
 unfold rdTup
 split
 ·exact zeroT_wf
 ·split
  ·exact tupAt_wf s
  ·exact zeroT_wf
theorem rdBks_addr (v:Int):∀ (n:Nat) (s:RdS),∀ b∈(rdBks v n s).1,0≤b.addr∧b.addr < 4294967296
 | 0,s,b,h=>by simp [rdBks] at h
 | n+1,s,b,h=>by
  simp only [rdBks,List.mem_append,List.mem_singleton] at h
  rcases h with h | rfl
  ·exact rdBks_addr v n s b h
  ·have:=rdN_lt 4 (rdS 2 (rdBks v n s).2)
   simp only [Nat.reducePow] at this
   unfold rdBk
   simp only
   omega
theorem decRec_wf (f:FrD):WfR (decRec f).1:=by
 have hz:WfR zeroRec:=⟨zeroT_wf,fun b hb=>by simp [zeroRec] at hb⟩
 have hr:∀ (k v:Int) (s:RdS),WfR (rdRec k v s).1:=by
  intro k v s
  unfold rdRec
  split
  ·exact⟨rdTup_wf s,fun b hb=>by simp at hb⟩
  ·split
   ·exact⟨rdTup_wf s,fun b hb=>by simp at hb⟩
   ·split
    ·exact⟨zeroT_wf,fun b hb=>rdBks_addr _ _ _ b hb⟩
    ·repeat' split
     all_goals exact⟨zeroT_wf,fun b hb=>by simp at hb⟩
 unfold decRec
 split
 ·exact hz
 ·simp only
  split
  ·exact hr _ _ _
  ·exact hz
theorem decRec_bks (f:FrD):(decRec f).1.bks.length≤17:=by
 have hb:∀ (v:Int) (n:Nat) (s:RdS),(rdBks v n s).1.length=n:=by
  intro v n
  induction n with
  | zero=>intro s;rfl
  | succ n ih=>intro s;simp [rdBks,ih]
 have hr:∀ (k v:Int) (s:RdS),(rdRec k v s).1.bks.length≤17:=by
  intro k v s
  unfold rdRec
  split
  ·simp
  ·split
   ·simp
   ·split
    ·simp only [hb];omega
    ·repeat' split
     all_goals simp
 unfold decRec
 split
 ·simp [zeroRec]
 ·simp only
  split
  ·exact hr _ _ _
  ·simp [zeroRec]
section
variable {F0:List Nat} {w0 w:World} {R:List Asrt} {stb:Nat} {s:StD}
theorem o_soframe {f:FrD} {v:Value} (hlb:f.body.length≤100000000) (h:In F0 w0 w (bodyA v f::StA stb s::R)) :
  Calls Tryz.prog 33 #[.agg #[pR stb],.agg #[.int .i64 f.kind,.int .i64 f.ver,v]] w fun e w'=>e=.returned (.int .i64 (rdFr s f).2)∧In F0 w0 w' (StA stb (rdFr s f).1::R):=by
 obtain⟨F1,r1⟩:=h.get 0 rfl
 obtain⟨av,cv,rfl,-,-,-⟩:=RowA.shape r1
 have hn:av=none→cv=0∧f.body=[]:=fun e=>⟨RowA.noc r1 e,by
  subst e
  have:=RowA.at r1
  cases hb:f.body with
  | nil=>rfl
  | cons x xs=>obtain⟨b,hb2,-⟩:=this.2 0 (.int .u8 x.toNat) (by rw [hb];rfl);cases hb2⟩
 have h2:=(h.cells #[pR stb] 90).cells #[.int .i64 f.kind,.int .i64 f.ver,.slice av f.body.length cv] 74
 simp only [World.size_alloc] at h2
 have hwf:=decRec_wf f
 have hbk:=decRec_bks f
 have hrd:rdFr s f=if (decRec f).2≠0∨(decRec f).1.kind=6 then (s,3) else applySt s (decRec f).1:=rfl
 have K1:=Lib.hid (o_rcdec (kind:=f.kind) (ver:=f.ver) (body:=f.body) (A:=av) (c:=cv) hn (fun w' h'=>by obtain⟨F',r'⟩:=h'.get 2 rfl;exact r'.all) hlb h2)
 rw [show (⟨f.kind,f.ver,f.body⟩:FrD)=f from rfl] at K1
 generalize decRec f=q at *
 obtain⟨⟨kind,⟨⟨src,dst,proto,sport,dport⟩,fbk,fgen,fseen⟩,gen,bks,bk,till,count⟩,er⟩:=q
 clear h h2 r1 hn hlb
 rw [hrd]
 clear hrd
 by_cases h0:er=0
 case neg=>
  have q0:decide (er=0)=false:=decide_eq_false h0
  have qn:(er != 0)=true:=by simpa using h0
  rw [if_pos (Or.inl h0)]
  go_enter Tryz.func33,Tryz.ntmps33
  go_wp2_with fail
  refine K1.out.mono ?_
  rintro e w1 ⟨pv,rfl,g1⟩
  obtain⟨Fp,rp⟩:=g1.get 0 rfl
  obtain⟨pa,pc,rfl,-,-,-⟩:=RowA.shape rp
  have hpn:pa=none→pc=0:=fun e=>RowA.noc rp e
  have d0:w1.cell? ⟨w.heap.size,0,none⟩=some (pR stb):=cell_of (g1.block 2 rfl) rfl
  clear K1 rp
  have G:Hid (In F0 w0 w1 (StA stb s::R)):=Lib.hid (g1.sel2 (R1:=[_,_,_,_,_]) [4] (by decide) rfl)
  clear g1 h0
  go_wp2_with fail
  go_ret
  exact⟨rfl,G.out.alloc _⟩
 subst h0
 by_cases h6:kind=6
 ·subst h6
  rw [if_pos (Or.inr rfl)]
  go_enter Tryz.func33,Tryz.ntmps33
  go_wp2_with fail
  refine K1.out.mono ?_
  rintro e w1 ⟨pv,rfl,g1⟩
  obtain⟨Fp,rp⟩:=g1.get 0 rfl
  obtain⟨pa,pc,rfl,-,-,-⟩:=RowA.shape rp
  have hpn:pa=none→pc=0:=fun e=>RowA.noc rp e
  have d0:w1.cell? ⟨w.heap.size,0,none⟩=some (pR stb):=cell_of (g1.block 2 rfl) rfl
  clear K1 rp
  have G:Hid (In F0 w0 w1 (StA stb s::R)):=Lib.hid (g1.sel2 (R1:=[_,_,_,_,_]) [4] (by decide) rfl)
  clear g1
  go_wp2_with fail
  go_ret
  exact⟨rfl,G.out.alloc _⟩
 ·rw [if_neg (by simp [h6])]
  have q6:(kind == 6)=false:=by simpa using h6
  go_enter Tryz.func33,Tryz.ntmps33
  go_wp2_with fail
  refine K1.out.mono ?_
  rintro e w1 ⟨pv,rfl,g1⟩
  obtain⟨Fp,rp⟩:=g1.get 0 rfl
  obtain⟨pa,pc,rfl,-,-,-⟩:=RowA.shape rp
  have hpn:pa=none→pc=0:=fun e=>RowA.noc rp e
  have d0:w1.cell? ⟨w.heap.size,0,none⟩=some (pR stb):=cell_of (g1.block 2 rfl) rfl
  clear K1 rp
  have g2:=(g1.sel2 (R1:=[_,_,_,_,_]) [4,0] (by decide) rfl).alloc (.cells #[.int .i64 kind,.int .u32 src,.int .u32 dst,.int .i64 proto,.int .i64 sport,.int .i64 dport,.int .i64 fbk,.int .i64 fgen,.int .i64 fseen,.int .i64 gen,.slice pa bks.length pc,.int .i64 bk,.int .i64 till,.int .i64 count] 39)
  have KA:=Lib.hid (o_apply (r:=⟨kind,⟨⟨src,dst,proto,sport,dport⟩,fbk,fgen,fseen⟩,gen,bks,bk,till,count⟩) (bks_row rfl 0 rfl) hpn (by simp only;omega) hwf g2)
  have d0':(w1.alloc (.cells #[.int .i64 kind,.int .u32 src,.int .u32 dst,.int .i64 proto,.int .i64 sport,.int .i64 dport,.int .i64 fbk,.int .i64 fgen,.int .i64 fseen,.int .i64 gen,.slice pa bks.length pc,.int .i64 bk,.int .i64 till,.int .i64 count] 39)).cell? ⟨w.heap.size,0,none⟩=some (pR stb):=kp_alloc d0
  clear g1 g2 hwf hbk h6 d0
  go_wp2_with fail
  refine KA.out.mono ?_
  rintro e w4 ⟨rfl,g4⟩
  have G:=Lib.hid (g4.sel2 (R1:=[_,_]) [0] (by decide) rfl)
  clear g4 KA
  go_wp2_with fail
  go_ret
  exact⟨rfl,G.out⟩
theorem frame_each (stb:Nat):EachOk (fun _:StD=>0) (.func (.func 33) #[.agg #[pR stb]] #[]) (StA stb) rdFr where
 framed:=StA.framed stb
 grow:=fun s f=>Nat.zero_le _
 call:=Or.inr ⟨_,_,_,rfl,enters_of Tryz.func33 (by kernel_rfl) rfl,fun F0 w0 w' s f v RR _ hl h=>o_soframe hl h⟩
end
section
variable {F0:List Nat} {w0 w:World} {R:List Asrt}
abbrev IntsR (v:Value) (l:List Nat):Asrt:=RowA 3 1 v l.length (segV l)
theorem segV_ix {l:List Nat} {k x:Nat} (h:l[k]?=some x):(segV l)[k]?=some (.int .i64 (x:Int)):=by simp [segV,h]
def IdxIRel (l:List Nat) (x:Nat) (w:World) (i:Value) (wr:World):Prop:=∃ k:Nat,k≤l.length∧i=.int .i64 k∧(∀ y∈l.take k,y≠x)∧wr=w
theorem o_iidx {A:Option Addr} {c:Nat} {l:List Nat} {x:Nat} (hs:Src w A l.length 1 (segV l)) (hl:l.length≤1000000) :
  Calls Tryz.prog 144 #[.slice A l.length c,.int .i64 x] w fun e w'=>∃ z:Int,e=.returned (.int .i64 z)∧decide (0≤z)=l.contains x∧w'=w:=by
 have HR:Hid (IdxIRel l x w (.int .i64 0) w):=Lib.hid ⟨0,Nat.zero_le _,rfl,by simp,rfl⟩
 have HS:=Lib.hid hs
 clear hs
 go_enter Tryz.func144,Tryz.ntmps144
 go_wp2_with fail
 go_loopw [8] (IdxIRel l x w) (fun k _=>l.length - (intOf k).toNat)
 case atStart=>exact HR.out
 case round=>
  obtain⟨k,hk,rfl,ht,rfl⟩:=hrel
  clear HR
  by_cases hlt:k < l.length
  ·obtain⟨y,hy⟩:∃ y,l[k]?=some y:=⟨l[k],List.getElem?_eq_getElem hlt⟩
   obtain⟨g1,o1,rfl,s1⟩:=HS.out.plain (by omega) (by decide)
   have c0:=s1 k _ (segV_ix hy)
   have hlt':(k:Int) < (l.length:Int):=Int.ofNat_lt.2 hlt
   have hw2:wrap64 ((k:Int)+1)=(k:Int)+1:=by unfold wrap64;omega
   by_cases hxy:y=x
   ·have q:((x:Int) == (y:Int))=true:=by rw [beq_iff_eq];omega
    have HC:Hid (decide ((0:Int)≤(k:Int))=l.contains x):=Lib.hid (by
     rw [decide_eq_true (by omega)]
     symm
     simp only [List.contains_eq_mem,decide_eq_true_eq]
     rw [← hxy];exact List.mem_of_getElem? hy)
    clear s1 hy ht hk hlt hxy HS
    go_wp2_with fail
    go_ret
    exact⟨_,rfl,HC.out,rfl⟩
   ·have q:((x:Int) == (y:Int))=false:=by rw [beq_eq_false_iff_ne];omega
    have HR:Hid (IdxIRel l x wr (.int .i64 ((k:Int)+1)) wr):=Lib.hid ⟨k+1,(List.getElem?_eq_some_iff.1 hy).1,by rw [Int.natCast_add];rfl,by
     intro z hz
     rw [List.take_add_one,hy] at hz
     rcases List.mem_append.1 hz with hz | hz
     ·exact ht z hz
     ·simp at hz;rw [hz];exact hxy,rfl⟩
    clear s1 hy ht hk hlt hxy
    go_wp2_with fail
    go_roundw
    case rel=>(try rw [hw2]);exact HR.out
    case measure=>(try rw [hw2]);exact meas_lt hlt'
  ·have hge:(l.length:Int)≤(k:Int):=Int.ofNat_le.2 (Nat.le_of_not_lt hlt)
   have HC:Hid (decide ((0:Int)≤-1)=l.contains x):=Lib.hid (by
    rw [decide_eq_false (by omega)]
    symm
    simp only [List.contains_eq_mem,decide_eq_false_iff_not]
    rw [List.take_of_length_le (Nat.le_of_not_lt hlt)] at ht
    exact fun hm=>ht x hm rfl)
   clear ht hk hlt
   go_wp2_with fail
   go_ret
   exact⟨_,rfl,HC.out,rfl⟩
theorem o_icont {A:Option Addr} {c:Nat} {l:List Nat} {x:Nat} (hs:Src w A l.length 1 (segV l)) (hl:l.length≤1000000) :
  Calls Tryz.prog 90 #[.slice A l.length c,.int .i64 x] w fun e w'=>e=.returned (.bool (l.contains x))∧w'=w:=by
 have K:=Lib.hid (o_iidx (c:=c) (x:=x) hs hl)
 clear hs
 go_enter Tryz.func90,Tryz.ntmps90
 go_wp2_with fail
 refine K.out.mono ?_
 rintro e w1 ⟨z,rfl,hz,rfl⟩
 have HZ:=Lib.hid hz
 clear hz K
 go_wp2_with fail
 go_ret
 exact⟨by rw [← HZ.out];rfl,rfl⟩
end
end Go.Proofs.YtpmmiljakbojaaaGreat
