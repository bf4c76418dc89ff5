/- Rows.CompactBoundsSaid -/
import Derived.Test.YtaopfagclnocdaaGreatCU18
import Derived.Test.YtaopfagclnocdaaGreatCU33
import Derived.Test.YtaopfagclnocdaaGreatCU41
import Derived.Test.YtaopfagclnocdaaGreatCU4
import Derived.Test.YtaopfagclnocdaaGreatCU29
namespace Go.Proofs.YtaopfagclnocdaaGreat
open Go.RowKit
open Go.RowKit Go.ChangeShapes Go.WideShapes Go.Deep
set_option linter.unusedVariables false
set_option maxHeartbeats 64000000
set_option maxRecDepth 100000
theorem recs_kind {v:StD} {r:Rec} (h:r∈recsSt v):r.kind=1∨r.kind=3∨r.kind=4:=by
 simp only [recsSt,List.mem_cons,List.mem_append,List.mem_map] at h
 rcases h with rfl | ⟨d,hd,rfl⟩|⟨f,hf,rfl⟩
 ·exact Or.inr (Or.inl rfl)
 ·exact Or.inr (Or.inr rfl)
 ·exact Or.inl rfl
theorem OkSt.all:∀ (l:List Rec) {s:StD},OkSt s→(∀ r∈l,WfR r)→OkSt (applyAll l s).1
 | [],s,h,_=>h
 | r::l,s,h,hw=>by
  unfold applyAll
  have h1:=h.apply (hw r (by simp))
  split
  ·exact h1
  ·exact OkSt.all l h1 (fun x hx=>hw x (List.mem_cons_of_mem _ hx))
theorem of_bad {v:StD} (hw:∀ r∈recsSt v,WfR r) (h:¬ OkSt v):(ofSt v).1=none∧(ofSt v).2≠0:=by
 by_cases e:(applyAll (recsSt v) zeroSt).2=0
 ·by_cases q:(applyAll (recsSt v) zeroSt).1=v
  ·exact absurd (by rw [← q];exact OkSt.all _ OkSt.zero hw) h
  ·rw [of_ne e q];exact⟨rfl,by simp⟩
 ·rw [of_err e];exact⟨rfl,e⟩
section
variable {F0:List Nat} {w0 w:World} {R:List Asrt} {st:StD}
theorem o_qenc {r:Rec} {A:Option Addr} {c:Nat} {v:Int} (hv:verOk v=true) (hm:mayRec r=true) (hk:r.kind=1∨r.kind=3∨r.kind=4) (hs:BksAt F0 w0 R A r.bks) (hw:WfR r) (hl:r.bks.length≤1000000) (h:In F0 w0 w R) :
  Calls Tryz.prog 71 #[agR r A c,.int .i64 v] w (REncPost (encRec r v) F0 w0 R):=by
 obtain⟨kind,⟨⟨src,dst,proto,sport,dport⟩,fbk,fgen,fseen⟩,gen,bks,bk,till,count⟩:=r
 simp only at hk
 rcases hk with rfl | rfl | rfl
 ·exact q_enc1 hv hm hw hs hl h
 ·exact q_enc3 hv hm hw hs hl h
 ·exact q_enc4 hv hm hw hs hl h
def QBndRel (st:StD) (ver:Int) (rv:Value) (A:Option Addr) (a g:Nat) (C:Array Value) (F0:List Nat) (w0:World) (R:List Asrt) (v i:Value) (wr:World):Prop:=
 ∃ k:Nat,k≤(recsSt st).length∧i=.int .i64 k∧v=.int .i64 ((frJoin ((rowsS ver st).take k)).length:Nat)∧In F0 w0 wr (RowA 45 14 rv (recsSt st).length (recsV (.slice A st.bks.length a) (recsSt st))::Cells g C 36::R)
theorem q_bound_bad (hb:¬ OkSt st) {ver:Int} {A D F:Option Addr} {a d f:Nat} (hA:AStV F0 w0 R st A D F) (hn:A=none→a=0) (lb:st.bks.length≤1000) (ld:st.drs.length≤1000) (lf:st.fls.length≤1000) (hw:∀ r∈recsSt st,WfR r) (h:In F0 w0 w R) :
  Calls Tryz.prog 19 #[agSt st A a D d F f,.int .i64 ver] w fun e w'=>e=.returned (.int .i64 0)∧In F0 w0 w' R:=by
 obtain⟨w1,hw1⟩:∃ w1,w1=w.alloc (.cells #[.int .i64 st.gen,.slice A st.bks.length a,.slice D st.drs.length d,.slice F st.fls.length f] 36):=⟨_,rfl⟩
 have h1:=h.cells #[.int .i64 st.gen,.slice A st.bks.length a,.slice D st.drs.length d,.slice F st.fls.length f] 36
 rw [← hw1] at h1
 have d0:w1.cell? ⟨w.heap.size,0,none⟩=some (.int .i64 st.gen):=cell_of (h1.block 0 rfl) rfl
 have d1:w1.cell? ⟨w.heap.size,1,none⟩=some (.slice A st.bks.length a):=cell_of (h1.block 0 rfl) rfl
 have d2:w1.cell? ⟨w.heap.size,2,none⟩=some (.slice D st.drs.length d):=cell_of (h1.block 0 rfl) rfl
 have d3:w1.cell? ⟨w.heap.size,3,none⟩=some (.slice F st.fls.length f):=cell_of (h1.block 0 rfl) rfl
 have K1:=o_qof (v:=st) (a:=a) (d:=d) (f:=f) (hA.more (Cells w.heap.size #[.int .i64 st.gen,.slice A st.bks.length a,.slice D st.drs.length d,.slice F st.fls.length f] 36)) hn lb ld lf hw h1
 obtain⟨b1,b2⟩:=of_bad hw hb
 have K1':Hid (Calls Tryz.prog 69 #[agSt st A a D d F f] w1 fun e w'=>e=.returned (.tuple #[.pointer none,.int .i64 (ofSt st).2])∧In F0 w0 w' R):=Lib.hid (K1.mono (fun e w' hp=>by unfold QOfPost at hp;rw [b1] at hp;exact⟨hp.1,hp.2.drop⟩))
 have q:((ofSt st).2 != 0)=true:=by rw [bne_iff_ne];exact b2
 clear b1 b2 hb
 have HW:=Lib.hid hw1
 clear h h1 hw1 hA hn lb ld lf K1 hw
 go_enter Tryz.func19,Tryz.ntmps19
 go_upto_region 1 with fail
 rw [← HW.out]
 clear HW
 generalize w.heap.size=g at *
 go_wp2_with fail
 refine K1'.out.mono ?_
 rintro e w2 ⟨rfl,g2⟩
 have G2:=Lib.hid g2
 clear g2 K1' d0 d1 d2 d3
 generalize (ofSt st).2=er at *
 go_wp2_with fail
 go_ret
 exact⟨rfl,G2.out⟩
theorem q_bound_ver (hok:OkSt st) {ver:Int} (hv:verOk ver=false) {A D F:Option Addr} {a d f:Nat} (hA:AStV F0 w0 R st A D F) (hn:A=none→a=0) (lb:st.bks.length≤1000) (ld:st.drs.length≤1000) (lf:st.fls.length≤1000) (hw:∀ r∈recsSt st,WfR r) (h:In F0 w0 w R) :
  Calls Tryz.prog 19 #[agSt st A a D d F f,.int .i64 ver] w fun e w'=>e=.returned (.int .i64 0)∧In F0 w0 w' R:=by
 obtain⟨w1,hw1⟩:∃ w1,w1=w.alloc (.cells #[.int .i64 st.gen,.slice A st.bks.length a,.slice D st.drs.length d,.slice F st.fls.length f] 36):=⟨_,rfl⟩
 have h1:=h.cells #[.int .i64 st.gen,.slice A st.bks.length a,.slice D st.drs.length d,.slice F st.fls.length f] 36
 rw [← hw1] at h1
 have d0:w1.cell? ⟨w.heap.size,0,none⟩=some (.int .i64 st.gen):=cell_of (h1.block 0 rfl) rfl
 have d1:w1.cell? ⟨w.heap.size,1,none⟩=some (.slice A st.bks.length a):=cell_of (h1.block 0 rfl) rfl
 have d2:w1.cell? ⟨w.heap.size,2,none⟩=some (.slice D st.drs.length d):=cell_of (h1.block 0 rfl) rfl
 have d3:w1.cell? ⟨w.heap.size,3,none⟩=some (.slice F st.fls.length f):=cell_of (h1.block 0 rfl) rfl
 have K1:=o_qof (v:=st) (a:=a) (d:=d) (f:=f) (hA.more (Cells w.heap.size #[.int .i64 st.gen,.slice A st.bks.length a,.slice D st.drs.length d,.slice F st.fls.length f] 36)) hn lb ld lf hw h1
 have K1':Hid (Calls Tryz.prog 69 #[agSt st A a D d F f] w1 fun e w'=>∃ mb,e=.returned (.tuple #[pR mb,.int .i64 0])∧In F0 w0 w' (Cells w.heap.size #[.int .i64 st.gen,.slice A st.bks.length a,.slice D st.drs.length d,.slice F st.fls.length f] 36::R)):=Lib.hid (K1.mono (fun e w' hp=>by unfold QOfPost at hp;rw [ofSt_ok hok] at hp;obtain⟨mb,bv,dv,fv,N,e1,_,e3⟩:=hp;exact⟨mb,e1,e3.drop.drop⟩))
 have HVV:Hid (∀ w,Calls Tryz.prog 51 #[.int .i64 ver] w fun e w'=>e=.returned (.bool false)∧w'=w):=Lib.hid (fun w=>by rw [← hv];exact q_version ver w)
 clear hok hv
 have HW:=Lib.hid hw1
 clear h h1 hw1 hA hn lb ld lf K1 hw
 go_enter Tryz.func19,Tryz.ntmps19
 go_upto_region 1 with fail
 rw [← HW.out]
 clear HW
 generalize w.heap.size=g at *
 go_wp2_with fail
 refine K1'.out.mono ?_
 rintro e w2 ⟨mb,rfl,g2⟩
 have G2:=Lib.hid g2
 clear g2 K1' d0 d1 d2 d3
 go_wp2_with fail
 refine (HVV.out _).mono ?_
 rintro e w3 ⟨rfl,rfl⟩
 go_wp2_with fail
 go_ret
 exact⟨rfl,G2.out.drop⟩
theorem q_bound_ok (hok:OkSt st) {ver:Int} (hv:verOk ver=true) {A D F:Option Addr} {a d f:Nat} (hA:AStV F0 w0 R st A D F) (hn:A=none→a=0) (lb:st.bks.length≤1000) (ld:st.drs.length≤1000) (lf:st.fls.length≤1000) (hw:∀ r∈recsSt st,WfR r) (h:In F0 w0 w R) :
  Calls Tryz.prog 19 #[agSt st A a D d F f,.int .i64 ver] w fun e w'=>e=.returned (.int .i64 ((frJoin (rowsS ver st)).length:Nat))∧In F0 w0 w' R:=by
 obtain⟨w1,hw1⟩:∃ w1,w1=w.alloc (.cells #[.int .i64 st.gen,.slice A st.bks.length a,.slice D st.drs.length d,.slice F st.fls.length f] 36):=⟨_,rfl⟩
 have h1:=h.cells #[.int .i64 st.gen,.slice A st.bks.length a,.slice D st.drs.length d,.slice F st.fls.length f] 36
 rw [← hw1] at h1
 have d0:w1.cell? ⟨w.heap.size,0,none⟩=some (.int .i64 st.gen):=cell_of (h1.block 0 rfl) rfl
 have d1:w1.cell? ⟨w.heap.size,1,none⟩=some (.slice A st.bks.length a):=cell_of (h1.block 0 rfl) rfl
 have d2:w1.cell? ⟨w.heap.size,2,none⟩=some (.slice D st.drs.length d):=cell_of (h1.block 0 rfl) rfl
 have d3:w1.cell? ⟨w.heap.size,3,none⟩=some (.slice F st.fls.length f):=cell_of (h1.block 0 rfl) rfl
 have K1:=o_qof (v:=st) (a:=a) (d:=d) (f:=f) (hA.more (Cells w.heap.size #[.int .i64 st.gen,.slice A st.bks.length a,.slice D st.drs.length d,.slice F st.fls.length f] 36)) hn lb ld lf hw h1
 have K1':Hid (Calls Tryz.prog 69 #[agSt st A a D d F f] w1 fun e w'=>∃ mb,e=.returned (.tuple #[pR mb,.int .i64 0])∧In F0 w0 w' (Cells w.heap.size #[.int .i64 st.gen,.slice A st.bks.length a,.slice D st.drs.length d,.slice F st.fls.length f] 36::R)):=Lib.hid (K1.mono (fun e w' hp=>by unfold QOfPost at hp;rw [ofSt_ok hok] at hp;obtain⟨mb,bv,dv,fv,N,e1,_,e3⟩:=hp;exact⟨mb,e1,e3.drop.drop⟩))
 have HVV:Hid (∀ w,Calls Tryz.prog 51 #[.int .i64 ver] w fun e w'=>e=.returned (.bool true)∧w'=w):=Lib.hid (fun w=>by rw [← hv];exact q_version ver w)
 have KR:=Lib.hid (fun (W:World) (h':In F0 w0 W (Cells w.heap.size #[.int .i64 st.gen,.slice A st.bks.length a,.slice D st.drs.length d,.slice F st.fls.length f] 36::R))=>o_qrecs (a:=a) (d:=d) (f:=f) (hA.more (Cells w.heap.size #[.int .i64 st.gen,.slice A st.bks.length a,.slice D st.drs.length d,.slice F st.fls.length f] 36)) lb ld lf h')
 have HOK:=Lib.hid hok
 have HV3:=Lib.hid hv
 have HV:=Lib.hid hA
 have HLEN:=Lib.hid (rows_len hok hv)
 have hrl:(rowsS ver st).length=(recsSt st).length:=by simp [rowsS]
 have hlen:=recsSt_len hok
 clear hok hv
 have HW:=Lib.hid hw1
 clear h h1 hw1 hA hn lb ld lf K1 hw
 go_enter Tryz.func19,Tryz.ntmps19
 go_upto_region 1 with fail
 rw [← HW.out]
 clear HW
 generalize w.heap.size=g at *
 go_wp2_with fail
 refine K1'.out.mono ?_
 rintro e w2 ⟨mb,rfl,g2⟩
 have e0:w2.cell? ⟨g,0,none⟩=some (.int .i64 st.gen):=cell_of (g2.block 0 rfl) rfl
 have e1:w2.cell? ⟨g,1,none⟩=some (.slice A st.bks.length a):=cell_of (g2.block 0 rfl) rfl
 have e2:w2.cell? ⟨g,2,none⟩=some (.slice D st.drs.length d):=cell_of (g2.block 0 rfl) rfl
 have e3:w2.cell? ⟨g,3,none⟩=some (.slice F st.fls.length f):=cell_of (g2.block 0 rfl) rfl
 have K2:=Lib.hid (KR.out _ g2)
 clear g2 K1' d0 d1 d2 d3 KR
 go_wp2_with fail
 refine (HVV.out _).mono ?_
 rintro e w3 ⟨rfl,rfl⟩
 clear HVV
 go_wp2_with fail
 refine K2.out.mono ?_
 rintro e w4 ⟨rv,rfl,g4⟩
 obtain⟨Fr,rr⟩:=g4.get 0 rfl
 obtain⟨ra,rc,rfl,-,-,-⟩:=RowA.shape rr
 have HR:Hid (QBndRel st ver (.slice ra (recsSt st).length rc) A a g #[.int .i64 st.gen,.slice A st.bks.length a,.slice D st.drs.length d,.slice F st.fls.length f] F0 w0 R (.int .i64 0) (.int .i64 0) w4):=Lib.hid ⟨0,Nat.zero_le _,rfl,rfl,g4⟩
 clear g4 K2 rr e0 e1 e2 e3
 go_wp2_with fail
 go_loopw [7,27] (QBndRel st ver (.slice ra (recsSt st).length rc) A a g #[.int .i64 st.gen,.slice A st.bks.length a,.slice D st.drs.length d,.slice F st.fls.length f] F0 w0 R) (fun _ k _=>(recsSt st).length - (intOf k).toNat)
 case atStart=>exact HR.out
 case round=>
  obtain⟨k,hk,rfl,rfl,hio⟩:=hrel
  clear HR
  by_cases hlt:k < (recsSt st).length
  ·obtain⟨x,hx⟩:∃ x,(recsSt st)[k]?=some x:=⟨(recsSt st)[k],List.getElem?_eq_getElem hlt⟩
   obtain⟨Fr,rr⟩:=hio.get 0 rfl
   obtain⟨gr,o,rfl,sc⟩:=rr.all.plain (by omega) (by decide)
   obtain⟨Ax,cx,hpx,hbx⟩:∃ Ax cx,(if k=0 then (Value.slice A st.bks.length a) else .slice none 0 0)=.slice Ax x.bks.length cx∧BksAt F0 w0 (RowA 45 14 (.slice (some ⟨gr,o,none⟩) (recsSt st).length rc) (recsSt st).length (recsV (.slice A st.bks.length a) (recsSt st))::Cells g #[.int .i64 st.gen,.slice A st.bks.length a,.slice D st.drs.length d,.slice F st.fls.length f] 36::R) Ax x.bks:=by
    rcases recs_el hx with ⟨rfl,e⟩|⟨h0,e⟩
    ·refine⟨A,a,by rw [if_pos rfl,e],?_⟩
     rw [e]
     exact fun w' h'=>HV.out.bks w' h'.drop.drop
    ·refine⟨none,0,by rw [if_neg h0,e];rfl,?_⟩
     rw [e]
     exact fun w' h'=>Src.nil _ _ _
   have c0:wr.cell? ⟨gr,o+k * 14,none⟩=some (.int .i64 x.kind):=by
    have:=sc (k * 14+0) _ (by rw [recsV_at hx 0 (by decide),hpx];rfl)
    rwa [← Nat.add_assoc] at this
   have c1:wr.cell? ⟨gr,o+k * 14+1,none⟩=some (.int .u32 x.fl.t.src):=by
    have:=sc (k * 14+1) _ (by rw [recsV_at hx 1 (by decide),hpx];rfl)
    rwa [← Nat.add_assoc] at this
   have c2:wr.cell? ⟨gr,o+k * 14+2,none⟩=some (.int .u32 x.fl.t.dst):=by
    have:=sc (k * 14+2) _ (by rw [recsV_at hx 2 (by decide),hpx];rfl)
    rwa [← Nat.add_assoc] at this
   have c3:wr.cell? ⟨gr,o+k * 14+3,none⟩=some (.int .i64 x.fl.t.proto):=by
    have:=sc (k * 14+3) _ (by rw [recsV_at hx 3 (by decide),hpx];rfl)
    rwa [← Nat.add_assoc] at this
   have c4:wr.cell? ⟨gr,o+k * 14+4,none⟩=some (.int .i64 x.fl.t.sport):=by
    have:=sc (k * 14+4) _ (by rw [recsV_at hx 4 (by decide),hpx];rfl)
    rwa [← Nat.add_assoc] at this
   have c5:wr.cell? ⟨gr,o+k * 14+5,none⟩=some (.int .i64 x.fl.t.dport):=by
    have:=sc (k * 14+5) _ (by rw [recsV_at hx 5 (by decide),hpx];rfl)
    rwa [← Nat.add_assoc] at this
   have c6:wr.cell? ⟨gr,o+k * 14+6,none⟩=some (.int .i64 x.fl.bk):=by
    have:=sc (k * 14+6) _ (by rw [recsV_at hx 6 (by decide),hpx];rfl)
    rwa [← Nat.add_assoc] at this
   have c7:wr.cell? ⟨gr,o+k * 14+7,none⟩=some (.int .i64 x.fl.gen):=by
    have:=sc (k * 14+7) _ (by rw [recsV_at hx 7 (by decide),hpx];rfl)
    rwa [← Nat.add_assoc] at this
   have c8:wr.cell? ⟨gr,o+k * 14+8,none⟩=some (.int .i64 x.fl.seen):=by
    have:=sc (k * 14+8) _ (by rw [recsV_at hx 8 (by decide),hpx];rfl)
    rwa [← Nat.add_assoc] at this
   have c9:wr.cell? ⟨gr,o+k * 14+9,none⟩=some (.int .i64 x.gen):=by
    have:=sc (k * 14+9) _ (by rw [recsV_at hx 9 (by decide),hpx];rfl)
    rwa [← Nat.add_assoc] at this
   have c10:wr.cell? ⟨gr,o+k * 14+10,none⟩=some (.slice Ax x.bks.length cx):=by
    have:=sc (k * 14+10) _ (by rw [recsV_at hx 10 (by decide),hpx];rfl)
    rwa [← Nat.add_assoc] at this
   have c11:wr.cell? ⟨gr,o+k * 14+11,none⟩=some (.int .i64 x.bk):=by
    have:=sc (k * 14+11) _ (by rw [recsV_at hx 11 (by decide),hpx];rfl)
    rwa [← Nat.add_assoc] at this
   have c12:wr.cell? ⟨gr,o+k * 14+12,none⟩=some (.int .i64 x.till):=by
    have:=sc (k * 14+12) _ (by rw [recsV_at hx 12 (by decide),hpx];rfl)
    rwa [← Nat.add_assoc] at this
   have c13:wr.cell? ⟨gr,o+k * 14+13,none⟩=some (.int .i64 x.count):=by
    have:=sc (k * 14+13) _ (by rw [recsV_at hx 13 (by decide),hpx];rfl)
    rwa [← Nat.add_assoc] at this
   have hlt':(k:Int) < ((recsSt st).length:Int):=Int.ofNat_lt.2 hlt
   have hw2:wrap64 ((k:Int)+1)=(k:Int)+1:=by unfold wrap64;omega
   obtain⟨wx1,wx2,wx3⟩:=WfR.recs HOK.out x (List.mem_of_getElem? hx)
   have hbl:x.bks.length≤1000000:=by
    have:=(HOK.out.lens).1
    rcases recs_el hx with ⟨_,e⟩|⟨_,e⟩ <;> rw [e]
    ·omega
    ·exact Nat.zero_le _
   have henc:=(dec_enc wx1 HV3.out wx2).1
   have hfk:(rowsS ver st)[k]?=some (encRec x ver).1:=by simp [rowsS,hx]
   have htk:(rowsS ver st).take (k+1)=(rowsS ver st).take k++[(encRec x ver).1]:=by rw [List.take_add_one,hfk];rfl
   have htl:(frJoin ((rowsS ver st).take (k+1))).length=(frJoin ((rowsS ver st).take k)).length+(16+(encRec x ver).1.body.length):=by
    rw [htk,frJoin_append,List.length_append];simp [frJoin,frBytes_length]
   have htm:(frJoin ((rowsS ver st).take (k+1))).length≤60000:=by
    refine Nat.le_trans ?_ HLEN.out
    conv=>rhs;rw [← List.take_append_drop (k+1) (rowsS ver st),frJoin_append,List.length_append]
    exact Nat.le_add_right _ _
   have g1:=hio.cells #[.int .i64 x.kind,.int .u32 x.fl.t.src,.int .u32 x.fl.t.dst,.int .i64 x.fl.t.proto,.int .i64 x.fl.t.sport,.int .i64 x.fl.t.dport,.int .i64 x.fl.bk,.int .i64 x.fl.gen,.int .i64 x.fl.seen,.int .i64 x.gen,.slice Ax x.bks.length cx,.int .i64 x.bk,.int .i64 x.till,.int .i64 x.count] 45
   have KE:=(o_qenc (r:=x) (c:=cx) HV3.out (WfR.recs HOK.out x (List.mem_of_getElem? hx)).2.1 (recs_kind (List.mem_of_getElem? hx)) (hbx.moreL [Cells wr.heap.size #[.int .i64 x.kind,.int .u32 x.fl.t.src,.int .u32 x.fl.t.dst,.int .i64 x.fl.t.proto,.int .i64 x.fl.t.sport,.int .i64 x.fl.t.dport,.int .i64 x.fl.bk,.int .i64 x.fl.gen,.int .i64 x.fl.seen,.int .i64 x.gen,.slice Ax x.bks.length cx,.int .i64 x.bk,.int .i64 x.till,.int .i64 x.count] 45]) wx1 hbl g1)
   have HM:=Lib.hid (meas_lt hlt')
   have HK:Hid (k+1≤(recsSt st).length):=Lib.hid hlt
   clear hio hx hk rr sc hpx hbx g1 hfk htk wx1 wx2 wx3 hlt
   rw [show encRec x ver=((encRec x ver).1,0) from by rw [← henc]] at KE
   replace KE:=Lib.hid KE
   clear henc
   obtain⟨n2,hn2⟩:∃ n2,n2=(frJoin ((rowsS ver st).take (k+1))).length:=⟨_,rfl⟩
   generalize (frJoin ((rowsS ver st).take k)).length=n at *
   generalize (encRec x ver).1=fr at *
   have hwn:wrap64 ((n:Int)+wrap64 (16+(fr.body.length:Int)))=(n2:Int):=bnd_wrap (hn2.trans htl) (by rw [hn2];exact htm)
   have HN2:=Lib.hid hn2
   clear htl htm hn2
   go_wp2_with fail
   refine KE.out.mono ?_
   rintro e w3 ⟨v,rfl,g3⟩
   obtain⟨Fv,rv⟩:=g3.get 0 rfl
   obtain⟨bv,bc,rfl,-,-,-⟩:=RowA.shape rv
   have HR:Hid (QBndRel st ver (.slice (some ⟨gr,o,none⟩) (recsSt st).length rc) A a g #[.int .i64 st.gen,.slice A st.bks.length a,.slice D st.drs.length d,.slice F st.fls.length f] F0 w0 R (.int .i64 (n2:Int)) (.int .i64 ((k:Int)+1)) (w3.alloc (.cells #[.int .i64 fr.kind,.int .i64 fr.ver,.slice bv fr.body.length bc] 85))):=Lib.hid ⟨k+1,HK.out,by rw [Int.natCast_add];rfl,by rw [HN2.out],(g3.cells #[.int .i64 fr.kind,.int .i64 fr.ver,.slice bv fr.body.length bc] 85).sel2 (R1:=[_,_,_,_,_]) (R2:=R) [3,4] (by decide) rfl⟩
   clear g3 rv KE HN2
   go_wp2_with fail
   go_roundw
   case rel=>(try rw [hw2]);(try rw [hwn]);exact HR.out
   case measure=>(try rw [hw2]);exact HM.out
  ·have hge:((recsSt st).length:Int)≤(k:Int):=Int.ofNat_le.2 (Nat.le_of_not_lt hlt)
   have hkl:k=(recsSt st).length:=by omega
   subst hkl
   have G:Hid (In F0 w0 wr R):=Lib.hid hio.drop.drop
   have HT:Hid ((rowsS ver st).take (recsSt st).length=rowsS ver st):=Lib.hid (List.take_of_length_le (Nat.le_of_eq hrl))
   clear hio hlt hk hrl
   rw [HT.out]
   clear HT
   obtain⟨n,hn⟩:∃ n,n=(frJoin (rowsS ver st)).length:=⟨_,rfl⟩
   rw [← hn]
   have HNE:=Lib.hid hn
   clear hn
   go_wp2_with fail
   go_ret
   exact⟨by rw [← HNE.out];rfl,G.out⟩
end
structure Rdy (s:SD) (n:Nat):Prop where
 lg:LgOk s.2.l
 inv:∃ Fr k,LogInv s.1 s.2.l Fr k Fr k
 ops:s.1.ops≤n
 ok:OkSt s.2.st
def Opens (size:Int) (d:DiskD) (t:StD):Prop:=∃ d' l,openS 3 size d=(d',some ⟨l,t,t⟩,0)
section
variable {F0:List Nat} {w0 w:World} {R:List Asrt} {sb lb bd stb:Nat}
def boundP (s:SD):Nat:=(frJoin (rowsS (s.2.l.m.ver:Int) s.2.st)).length
def needsP (s:SD) (size:Int):Bool:=decide (size < (sizeL (s.1,s.2.l):Int)) && decide (2 * (boundP s:Int) < (sizeL (s.1,s.2.l):Int))
end
section
variable {F0:List Nat} {w0 w:World} {R:List Asrt} {st:StD}
theorem o_bound_bad (hb:¬ OkSt st) (ver size:Int) {A D F:Option Addr} {a d f:Nat} (hA:AStV F0 w0 R st A D F) (hn:A=none→a=0) (lb:st.bks.length≤1000) (ld:st.drs.length≤1000) (lf:st.fls.length≤1000) (hw:∀ r∈recsSt st,WfR r) (h:In F0 w0 w R) :
  Calls Tryz.prog 18 #[agSt st A a D d F f,.int .i64 ver,.int .i64 size] w fun e w'=>e=.returned (.int .i64 0)∧In F0 w0 w' R:=by
 have h1:=h.cells #[.int .i64 st.gen,.slice A st.bks.length a,.slice D st.drs.length d,.slice F st.fls.length f] 36
 obtain⟨b1,b2⟩:=of_bad hw hb
 have K1':Hid (Calls Tryz.prog 67 #[agSt st A a D d F f] (w.alloc (.cells #[.int .i64 st.gen,.slice A st.bks.length a,.slice D st.drs.length d,.slice F st.fls.length f] 36)) fun e w'=>e=.returned (.tuple #[.pointer none,.int .i64 (ofSt st).2])∧In F0 w0 w' R):=Lib.hid ((o_stof (v:=st) (a:=a) (d:=d) (f:=f) (hA.more (Cells w.heap.size #[.int .i64 st.gen,.slice A st.bks.length a,.slice D st.drs.length d,.slice F st.fls.length f] 36)) hn lb ld lf hw h1).mono (fun e w' hp=>by unfold OfPost at hp;rw [b1] at hp;exact⟨hp.1,hp.2.drop⟩))
 have q:((ofSt st).2 != 0)=true:=by rw [bne_iff_ne];exact b2
 clear h h1 hA hn lb ld lf hw b1 b2 hb
 go_enter Tryz.func18,Tryz.ntmps18
 go_wp2_with fail
 refine K1'.out.mono ?_
 rintro e w2 ⟨rfl,g2⟩
 have G2:=Lib.hid g2
 clear g2 K1'
 generalize (ofSt st).2=er at *
 go_wp2_with fail
 go_ret
 exact⟨rfl,G2.out⟩
def Bnd0Rel (st:StD) (rv pv:Value) (F0:List Nat) (w0:World) (R:List Asrt) (v i:Value) (wr:World):Prop:=
 i=.int .i64 0∧v=.int .i64 0∧In F0 w0 wr (RowA 45 14 rv (recsSt st).length (recsV pv (recsSt st))::BkR pv st.bks::R)
theorem o_bound_ver (hok:OkSt st) {ver:Int} (hv:verOk ver=false) (size:Int) {A D F:Option Addr} {a d f:Nat} (hA:AStV F0 w0 R st A D F) (hn:A=none→a=0) (h:In F0 w0 w R) :
  Calls Tryz.prog 18 #[agSt st A a D d F f,.int .i64 ver,.int .i64 size] w fun e w'=>e=.returned (.int .i64 0)∧In F0 w0 w' R:=by
 have h1:=h.cells #[.int .i64 st.gen,.slice A st.bks.length a,.slice D st.drs.length d,.slice F st.fls.length f] 36
 obtain⟨l1,l2,l3⟩:=hok.lens
 have K1:=o_stof (v:=st) (a:=a) (d:=d) (f:=f) (hA.more (Cells w.heap.size #[.int .i64 st.gen,.slice A st.bks.length a,.slice D st.drs.length d,.slice F st.fls.length f] 36)) hn (by omega) (by omega) (by omega) (fun r hr=>(WfR.recs hok r hr).1) h1
 have K1':Hid (Calls Tryz.prog 67 #[agSt st A a D d F f] (w.alloc (.cells #[.int .i64 st.gen,.slice A st.bks.length a,.slice D st.drs.length d,.slice F st.fls.length f] 36)) fun e w'=>∃ sb,e=.returned (.tuple #[pR sb,.int .i64 0])∧In F0 w0 w' (StA sb st::Cells w.heap.size #[.int .i64 st.gen,.slice A st.bks.length a,.slice D st.drs.length d,.slice F st.fls.length f] 36::R)):=Lib.hid (K1.mono (fun e w' hp=>by unfold OfPost at hp;rw [ofSt_ok hok] at hp;exact hp))
 have HOK:=Lib.hid hok
 have HV:=Lib.hid hv
 have hlen:=recsSt_len hok
 clear h h1 K1 hok hv hA hn l1 l2 l3
 go_enter Tryz.func18,Tryz.ntmps18
 go_wp2_with fail
 refine K1'.out.mono ?_
 rintro e w1 ⟨sb,rfl,g1⟩
 have K2:=Lib.hid (o_records g1)
 clear g1 K1'
 go_wp2_with fail
 refine K2.out.mono ?_
 rintro e w2 ⟨rv,pv,rfl,g2⟩
 obtain⟨Fr,rr⟩:=g2.get 0 rfl
 obtain⟨ra,rc,rfl,-,-,-⟩:=RowA.shape rr
 obtain⟨Fp,rp⟩:=g2.get 1 rfl
 obtain⟨pa,pc,rfl,-,-,-⟩:=RowA.shape rp
 have HN:Hid (pa=none→pc=0):=Lib.hid (fun e=>RowA.noc rp e)
 have HR:Hid (Bnd0Rel st (.slice ra (recsSt st).length rc) (.slice pa st.bks.length pc) F0 w0 R (.int .i64 0) (.int .i64 0) w2):=Lib.hid ⟨rfl,rfl,(g2.sel2 (R1:=[_,_,_,_]) (R2:=R) [0,1] (by decide) rfl)⟩
 clear g2 K2 rr rp
 go_wp2_with fail
 go_loopw [9,24] (Bnd0Rel st (.slice ra (recsSt st).length rc) (.slice pa st.bks.length pc) F0 w0 R) (fun _ k _=>(recsSt st).length - (intOf k).toNat)
 case atStart=>exact HR.out
 case round=>
  obtain⟨rfl,rfl,hio⟩:=hrel
  clear HR
  have hlt:0 < (recsSt st).length:=by simp [recsSt]
  obtain⟨x,hx0⟩:∃ x,(recsSt st)[0]?=some x:=⟨(recsSt st)[0],List.getElem?_eq_getElem hlt⟩
  obtain⟨k,hk0⟩:∃ k:Nat,k=0:=⟨0,rfl⟩
  have hx:(recsSt st)[k]?=some x:=by rw [hk0];exact hx0
  obtain⟨Fr,rr⟩:=hio.get 0 rfl
  obtain⟨gr,o,rfl,sc⟩:=rr.all.plain (by omega) (by decide)
  obtain⟨Ax,cx,hpx,hnx,hbx⟩:∃ Ax cx,(if k=0 then (Value.slice pa st.bks.length pc) else .slice none 0 0)=.slice Ax x.bks.length cx∧(Ax=none→cx=0)∧BksAt F0 w0 (RowA 45 14 (.slice (some ⟨gr,o,none⟩) (recsSt st).length rc) (recsSt st).length (recsV (.slice pa st.bks.length pc) (recsSt st))::BkR (.slice pa st.bks.length pc) st.bks::R) Ax x.bks:=by
   rcases recs_el hx with ⟨rfl,e⟩|⟨h0,e⟩
   ·refine⟨pa,pc,by rw [if_pos rfl,e],HN.out,?_⟩
    rw [e]
    exact fun w' h'=>by obtain⟨F',r'⟩:=h'.get 1 rfl;exact r'.all
   ·refine⟨none,0,by rw [if_neg h0,e];rfl,fun _=>rfl,?_⟩
    rw [e]
    exact fun w' h'=>Src.nil _ _ _
  have c0:wr.cell? ⟨gr,o+k * 14,none⟩=some (.int .i64 x.kind):=by
   have:=sc (k * 14+0) _ (by rw [recsV_at hx 0 (by decide),hpx];rfl)
   rwa [← Nat.add_assoc] at this
  have c1:wr.cell? ⟨gr,o+k * 14+1,none⟩=some (.int .u32 x.fl.t.src):=by
   have:=sc (k * 14+1) _ (by rw [recsV_at hx 1 (by decide),hpx];rfl)
   rwa [← Nat.add_assoc] at this
  have c2:wr.cell? ⟨gr,o+k * 14+2,none⟩=some (.int .u32 x.fl.t.dst):=by
   have:=sc (k * 14+2) _ (by rw [recsV_at hx 2 (by decide),hpx];rfl)
   rwa [← Nat.add_assoc] at this
  have c3:wr.cell? ⟨gr,o+k * 14+3,none⟩=some (.int .i64 x.fl.t.proto):=by
   have:=sc (k * 14+3) _ (by rw [recsV_at hx 3 (by decide),hpx];rfl)
   rwa [← Nat.add_assoc] at this
  have c4:wr.cell? ⟨gr,o+k * 14+4,none⟩=some (.int .i64 x.fl.t.sport):=by
   have:=sc (k * 14+4) _ (by rw [recsV_at hx 4 (by decide),hpx];rfl)
   rwa [← Nat.add_assoc] at this
  have c5:wr.cell? ⟨gr,o+k * 14+5,none⟩=some (.int .i64 x.fl.t.dport):=by
   have:=sc (k * 14+5) _ (by rw [recsV_at hx 5 (by decide),hpx];rfl)
   rwa [← Nat.add_assoc] at this
  have c6:wr.cell? ⟨gr,o+k * 14+6,none⟩=some (.int .i64 x.fl.bk):=by
   have:=sc (k * 14+6) _ (by rw [recsV_at hx 6 (by decide),hpx];rfl)
   rwa [← Nat.add_assoc] at this
  have c7:wr.cell? ⟨gr,o+k * 14+7,none⟩=some (.int .i64 x.fl.gen):=by
   have:=sc (k * 14+7) _ (by rw [recsV_at hx 7 (by decide),hpx];rfl)
   rwa [← Nat.add_assoc] at this
  have c8:wr.cell? ⟨gr,o+k * 14+8,none⟩=some (.int .i64 x.fl.seen):=by
   have:=sc (k * 14+8) _ (by rw [recsV_at hx 8 (by decide),hpx];rfl)
   rwa [← Nat.add_assoc] at this
  have c9:wr.cell? ⟨gr,o+k * 14+9,none⟩=some (.int .i64 x.gen):=by
   have:=sc (k * 14+9) _ (by rw [recsV_at hx 9 (by decide),hpx];rfl)
   rwa [← Nat.add_assoc] at this
  have c10:wr.cell? ⟨gr,o+k * 14+10,none⟩=some (.slice Ax x.bks.length cx):=by
   have:=sc (k * 14+10) _ (by rw [recsV_at hx 10 (by decide),hpx];rfl)
   rwa [← Nat.add_assoc] at this
  have c11:wr.cell? ⟨gr,o+k * 14+11,none⟩=some (.int .i64 x.bk):=by
   have:=sc (k * 14+11) _ (by rw [recsV_at hx 11 (by decide),hpx];rfl)
   rwa [← Nat.add_assoc] at this
  have c12:wr.cell? ⟨gr,o+k * 14+12,none⟩=some (.int .i64 x.till):=by
   have:=sc (k * 14+12) _ (by rw [recsV_at hx 12 (by decide),hpx];rfl)
   rwa [← Nat.add_assoc] at this
  have c13:wr.cell? ⟨gr,o+k * 14+13,none⟩=some (.int .i64 x.count):=by
   have:=sc (k * 14+13) _ (by rw [recsV_at hx 13 (by decide),hpx];rfl)
   rwa [← Nat.add_assoc] at this
  have hlt':(0:Int) < ((recsSt st).length:Int):=by omega
  obtain⟨wx1,wx2,wx3⟩:=WfR.recs HOK.out x (List.mem_of_getElem? hx)
  have hbl:x.bks.length≤1000000:=by
   have:=(HOK.out.lens).1
   rcases recs_el hx with ⟨_,e⟩|⟨_,e⟩ <;> rw [e]
   ·omega
   ·exact Nat.zero_le _
  have g1:=hio.cells #[.int .i64 x.kind,.int .u32 x.fl.t.src,.int .u32 x.fl.t.dst,.int .i64 x.fl.t.proto,.int .i64 x.fl.t.sport,.int .i64 x.fl.t.dport,.int .i64 x.fl.bk,.int .i64 x.fl.gen,.int .i64 x.fl.seen,.int .i64 x.gen,.slice Ax x.bks.length cx,.int .i64 x.bk,.int .i64 x.till,.int .i64 x.count] 45
  have KE:=o_rcenc (r:=x) (c:=cx) ver (hbx.moreL [Cells wr.heap.size #[.int .i64 x.kind,.int .u32 x.fl.t.src,.int .u32 x.fl.t.dst,.int .i64 x.fl.t.proto,.int .i64 x.fl.t.sport,.int .i64 x.fl.t.dport,.int .i64 x.fl.bk,.int .i64 x.fl.gen,.int .i64 x.fl.seen,.int .i64 x.gen,.slice Ax x.bks.length cx,.int .i64 x.bk,.int .i64 x.till,.int .i64 x.count] 45]) wx1 hbl g1
  rw [show encRec x ver=(zeroFr,10) by unfold encRec;rw [if_pos HV.out]] at KE
  replace KE:=Lib.hid KE
  subst hk0
  simp only [Nat.zero_mul,Nat.add_zero] at c0 c1 c2 c3 c4 c5 c6 c7 c8 c9 c10 c11 c12 c13
  clear hio hx hx0 rr sc hpx hnx hbx g1 wx1 wx2 wx3 hlt hbl
  go_wp2_with fail
  refine KE.out.mono ?_
  rintro e w3 ⟨v,rfl,g3⟩
  obtain⟨Fv,rv⟩:=g3.get 0 rfl
  obtain⟨bv,bc,rfl,-,-,-⟩:=RowA.shape rv
  have G:Hid (∀ o,In F0 w0 (w3.alloc o) R):=Lib.hid (fun o=>(g3.sel2 (R1:=[_,_,_,_]) (R2:=R) [] (by decide) rfl).alloc o)
  clear g3 rv KE
  go_wp2_with fail
  go_ret
  exact⟨rfl,G.out _⟩
theorem o_cpdo_none (w:World):Calls Tryz.prog 20 #[.pointer none] w fun e w'=>e=.returned (.int .i64 1)∧w'=w:=by
 go_enter Tryz.func20,Tryz.ntmps20
 go_wp2_with fail
 go_ret
 exact⟨rfl,rfl⟩
theorem o_cpneeds_none (size:Int) (w:World):Calls Tryz.prog 21 #[.pointer none,.int .i64 size] w fun e w'=>e=.returned (.bool false)∧w'=w:=by
 go_enter Tryz.func21,Tryz.ntmps21
 go_wp2_with fail
 go_ret
 exact⟨rfl,rfl⟩
theorem bounds_same {A D F:Option Addr} {a d f:Nat} (ver size:Int) (hA:AStV F0 w0 R st A D F) (hn:A=none→a=0) (lb:st.bks.length≤1000) (ld:st.drs.length≤1000) (lf:st.fls.length≤1000) (hw:∀ r∈recsSt st,WfR r) :
  ∃ n:Int,(∀ w,In F0 w0 w R→Calls Tryz.prog 18 #[agSt st A a D d F f,.int .i64 ver,.int .i64 size] w fun e w'=>e=.returned (.int .i64 n)∧In F0 w0 w' R)∧∀ w,In F0 w0 w R→Calls Tryz.prog 19 #[agSt st A a D d F f,.int .i64 ver] w fun e w'=>e=.returned (.int .i64 n)∧In F0 w0 w' R:=by
 by_cases hok:OkSt st
 ·cases hv:verOk ver with
  | true=>exact⟨_,fun w h=>o_bound hok hv size hA hn h,fun w h=>q_bound_ok hok hv hA hn lb ld lf hw h⟩
  | false=>exact⟨_,fun w h=>o_bound_ver hok hv size hA hn h,fun w h=>q_bound_ver hok hv hA hn lb ld lf hw h⟩
 ·exact⟨_,fun w h=>o_bound_bad hok ver size hA hn lb ld lf hw h,fun w h=>q_bound_bad hok hA hn lb ld lf hw h⟩
end
theorem flatDrR {H:Type} {enc:TypeId×Value→H}:FlatT enc Tryz.prog 128 [.i64,.i64]:=by
 refine flat_struct Tryz.underlying128 [(_,[.i64]),(_,[.i64])] rfl ⟨rfl,by kernel_rfl,rfl,by kernel_rfl,trivial⟩ ?_ (by kernel_rfl)
 intro p hp
 simp only [List.mem_cons,List.not_mem_nil,or_false] at hp
 rcases hp with rfl | rfl
 all_goals exact flat_int (by kernel_rfl)
theorem flat_get {α:Type} {enc:α→List Value} {k:Nat} (hk:∀ x,(enc x).length=k) (h0:0 < k) {l:List α} {t:Nat} {u:Value} (h:((l.map enc).flatten)[t]?=some u):∃ x,l[t / k]?=some x∧(enc x)[t % k]?=some u:=by
 have hlt:t < l.length * k:=by rw [← flat_len hk];exact (List.getElem?_eq_some_iff.1 h).1
 have hq:t / k < l.length:=(Nat.div_lt_iff_lt_mul h0).2 hlt
 obtain⟨x,hx⟩:∃ x,l[t / k]?=some x:=⟨l[t / k]'hq,List.getElem?_eq_getElem _⟩
 refine⟨x,hx,?_⟩
 rw [← flat_at hk hx (t % k) (Nat.mod_lt t h0),Nat.div_add_mod' t k]
 exact h
def ArgF {α:Type} (enc:α→List Value) (k:Nat) (w:World) (v:Value) (L:List α):Prop:=∃ a c,v=.slice a L.length c∧Src w a L.length k ((L.map enc).flatten)∧(a=none→c=0)
theorem ArgSl.flat {α:Type} {enc:α→List Value} {k:Nat} (hk:∀ x,(enc x).length=k) (h0:0 < k) {Q:World→List Value→α→Prop} {w:World} {v:Value} {L:List α} (hQ:∀ cs x,Q w cs x→cs=enc x) (h:ArgSl k Q w v L):ArgF enc k w v L:=by
 obtain⟨a,c,e1,h1,h2,hn,h3⟩:=h.ex
 refine⟨a,c,e1,⟨flat_len hk L,fun hp=>?_⟩,hn⟩
 obtain⟨g,o,cs0,e0,_,_⟩:=h3 0 _ (List.getElem?_eq_getElem hp)
 refine⟨⟨g,o,none⟩,e0,fun j u hu=>?_⟩
 obtain⟨x,hx,hxu⟩:=flat_get hk h0 hu
 obtain⟨g',o',cs',e',hq,hc⟩:=h3 _ _ hx
 rw [e0] at e';cases e'
 have:=hQ _ _ hq;subst this
 have:=hc _ _ hxu
 rw [add_at,show o+j=o+j / k * k+j % k by rw [Nat.add_assoc,Nat.div_add_mod' j k]]
 exact this
theorem ArgSl.each {α:Type} {k:Nat} {Q:World→List Value→α→Prop} {w:World} {v:Value} {L:List α} (h:ArgSl k Q w v L):∀ x∈L,∃ cs,Q w cs x:=by
 intro x hx
 obtain⟨a,c,e1,h1,h2,hn,h3⟩:=h.ex
 obtain⟨i,hi,rfl⟩:=List.mem_iff_getElem.1 hx
 obtain⟨_,_,cs,_,hq,_⟩:=h3 i _ (List.getElem?_eq_getElem hi)
 exact⟨cs,hq⟩
def ArgSt (w:World) (v:Value) (s:StD):Prop:=∃ A a D d F f,v=agSt s A a D d F f∧(A=none→a=0)∧Src w A s.bks.length 3 (bkV s.bks)∧Src w D s.drs.length 2 ((s.drs.map encDr).flatten)∧Src w F s.fls.length 8 ((s.fls.map encFs).flatten)∧(∀ b∈s.bks,WfBk b)∧∀ f∈s.fls,WfT f.t
section
variable {H:Type} {enc:TypeId×Value→H} {w:World} {base:Nat} {spare:Nat→Bool} {held:Bool}
theorem openDrs {fuel:Nat} {cs:List Value} {y:DataW H×List MemPlace} (h:DataW.trod enc Tryz.prog w base spare held fuel 33 cs=some y):∃ v l,cs=[v]∧ArgF encDr 2 w v l:=by
 obtain⟨v,L,e,hv⟩:=openSl (k:=2) (Q:=fun _ cs (b:Int×Int)=>cs=encDr b) Tryz.underlying33 (by kernel_rfl) (by decide) (fun n cs y hy hl=>by
  obtain⟨ns,n1,n2,n3⟩:=flatDrR w base spare held n cs y hy
  match ns,n1,n2,n3 with
  | [a,b],_,e,hw=>exact⟨⟨a,b⟩,by rw [e];rfl⟩) h
 exact⟨v,L,e,hv.flat (enc:=encDr) (k:=2) (fun _=>rfl) (by decide) (fun cs x hq=>hq)⟩
theorem openFls {fuel:Nat} {cs:List Value} {y:DataW H×List MemPlace} (h:DataW.trod enc Tryz.prog w base spare held fuel 34 cs=some y):∃ v l,cs=[v]∧ArgF encFs 8 w v l∧∀ f∈l,WfT f.t:=by
 obtain⟨v,L,e,hv⟩:=openSl (k:=8) (Q:=fun _ cs (b:Fl)=>cs=encFs b∧WfT b.t) Tryz.underlying34 (by kernel_rfl) (by decide) (fun n cs y hy hl=>by
  obtain⟨ns,n1,n2,n3⟩:=flatFlR w base spare held n cs y hy
  match ns,n1,n2,n3 with
  | [s,d,p,sp,dp,bk,gn,sn],_,e1,hw=>
   obtain⟨s0,s1⟩:=litR_u32 (hw 0 _ _ rfl rfl)
   obtain⟨d0,d1⟩:=litR_u32 (hw 1 _ _ rfl rfl)
   obtain⟨p0,p1⟩:=litR_i64 (hw 2 _ _ rfl rfl)
   obtain⟨sp0,sp1⟩:=litR_i64 (hw 3 _ _ rfl rfl)
   obtain⟨dp0,dp1⟩:=litR_i64 (hw 4 _ _ rfl rfl)
   exact⟨⟨⟨s,d,p,sp,dp⟩,bk,gn,sn⟩,by rw [e1];rfl,⟨s0,s1,d0,d1,p0,by show p≤_;omega,sp0,by show sp≤_;omega,dp0,by show dp≤_;omega⟩⟩) h
 refine⟨v,L,e,hv.flat (enc:=encFs) (k:=8) (fun _=>rfl) (by decide) (fun cs x hq=>hq.1),fun f hf=>?_⟩
 obtain⟨cs,hq⟩:=hv.each f hf
 exact hq.2
theorem list4 {cs:List Value} (h:cs.length=4):∃ c0 c1 c2 c3,cs=[c0,c1,c2,c3]:=by
 match cs,h with
 | [c0,c1,c2,c3],_=>exact⟨c0,c1,c2,c3,rfl⟩
theorem stOf' {n:Nat} {cs:List Value} {y:DataW H×List MemPlace} (h:DataW.trod enc Tryz.prog w base spare held n 36 cs=some y) (hl:cs.length=4):∃ s,ArgSt w (.agg cs.toArray) s:=by
 obtain⟨xs,n',_,_,hlc,hlen,hfl⟩:=DataW.trod_struct Tryz.underlying36 h
 have hxl:xs.length=4:=by rw [hlen];rfl
 obtain⟨z0,t0⟩:=fld hfl (j:=0) rfl rfl rfl (show Tryz.prog.cellsOf 3=1 by kernel_rfl) (by omega)
 obtain⟨z1,t1⟩:=fld hfl (j:=1) rfl rfl rfl (show Tryz.prog.cellsOf 32=1 by kernel_rfl) (by omega)
 obtain⟨z2,t2⟩:=fld hfl (j:=2) rfl rfl rfl (show Tryz.prog.cellsOf 33=1 by kernel_rfl) (by omega)
 obtain⟨z3,t3⟩:=fld hfl (j:=3) rfl rfl rfl (show Tryz.prog.cellsOf 34=1 by kernel_rfl) (by omega)
 obtain⟨g,e0,-,-⟩:=DataW.trod_int (k:=.i64) (by kernel_rfl) t0
 obtain⟨vb,lb,e1,hb⟩:=openBks t1
 obtain⟨vd,ld,e2,hd⟩:=openDrs t2
 obtain⟨vf,lf,e3,hf,hfw⟩:=openFls t3
 obtain⟨c0,c1,c2,c3,rfl⟩:=list4 hl
 change [c0]=_ at e0
 change [c1]=_ at e1
 change [c2]=_ at e2
 change [c3]=_ at e3
 simp only [List.cons.injEq,and_true] at e0 e1 e2 e3
 subst e0 e1 e2 e3
 obtain⟨A,a,rfl,s1,s2,s3,s4⟩:=hb.ex
 obtain⟨D,d,rfl,y1,y2⟩:=hd
 obtain⟨F,f,rfl,u1,u2⟩:=hf
 exact⟨⟨g,lb,ld,lf⟩,A,a,D,d,F,f,rfl,s4,s1,y1,u1,hb.wf,hfw⟩
theorem openSt {b0:Nat} {r:Reach} {v:Value} {d:DataW H} {p:List MemPlace}
  (hv:Value.okWide Tryz.prog w r b0 36 v) (h:DataW.Trod enc Tryz.prog w base spare held 36 v d p):∃ s,ArgSt w v s:=by
 obtain⟨cs,rfl,hsz⟩:=okWide_struct Tryz.underlying36 hv
 obtain⟨n,h⟩:=h
 obtain⟨s,hs⟩:=stOf' h (by show cs.toList.length=4;rw [Array.length_toList,hsz];kernel_rfl)
 exact⟨s,by rw [← Array.toArray_toList (xs:=cs)];exact hs⟩
end
theorem walk_CompactBounds (W:World) {v:Value} {st:StD} (hv:ArgSt W v st) (version:Int) (wv:(Lit.int .i64 version).wf=true) (size:Int) (wsz:(Lit.int .i64 size).wf=true) :
  Calls Tryz.prog 4 #[v,.int .i64 version,.int .i64 size] W (TrueP W):=by
 obtain⟨A,a,D,d,F,f,rfl,hn,sA,sD,sF,hwb,hwf⟩:=hv
 have hVA:∀ R,AStV [] W R st A D F:=fun R=>⟨fun w' h'=>sA.old h',fun w' h'=>sD.old h',fun w' h'=>sF.old h'⟩
 have hwr:∀ r∈recsSt st,WfR r:=by
  have z:WfT zeroT:=⟨by decide,by decide,by decide,by decide,by decide,by decide,by decide,by decide,by decide,by decide⟩
  intro r hr
  simp only [recsSt,List.mem_cons,List.mem_append,List.mem_map] at hr
  rcases hr with rfl | ⟨x,hx,rfl⟩|⟨x,hx,rfl⟩
  ·exact⟨z,fun b hb=>⟨(hwb b hb).a0,(hwb b hb).a1⟩⟩
  ·exact⟨z,by simp [recDr]⟩
  ·exact⟨hwf x hx,by simp [recFl]⟩
 have g0:=(Own.nil W).cells #[.int .i64 st.gen,.slice A st.bks.length a,.slice D st.drs.length d,.slice F st.fls.length f] 36
 have HAW:=Lib.hid (fun w' (R:List Asrt) (h':In [] W w' R)=>o_awake16 h')
 have G0:=Lib.hid g0
 have G1:=Lib.hid (g0.drewN 1)
 have hz:=cells4 ((g0.drewN 1).block 0 rfl)
 obtain⟨z0,z1,z2,z3⟩:=cells4 (g0.block 0 rfl)
 clear wv wsz hwb hwf sA sD sF
 by_cases q1:300 < st.fls.length
 ·have q:((300:Int) < (st.fls.length:Int)):=by omega
  have K:=Lib.hid (HAW.out _ _ G0.out)
  clear q1 HAW G0 G1 hz g0 hVA hwr hn
  go_enter Tryz.func4,Tryz.ntmps4
  go_wp2_with fail
  refine K.out.mono ?_
  rintro e w2 ⟨rfl,g⟩
  have G:=Lib.hid g.mod
  clear g K
  go_wp2_with fail
  go_ret
  exact⟨rfl,G.out⟩
 by_cases q2:40 < st.bks.length
 ·have q:((40:Int) < (st.bks.length:Int)):=by omega
  have q':¬ ((300:Int) < (st.fls.length:Int)):=by omega
  have K:=Lib.hid (HAW.out _ _ G0.out)
  clear q1 q2 HAW G0 G1 hz g0 hVA hwr hn
  go_enter Tryz.func4,Tryz.ntmps4
  go_wp2_with fail
  refine K.out.mono ?_
  rintro e w2 ⟨rfl,g⟩
  have G:=Lib.hid g.mod
  clear g K
  go_wp2_with fail
  go_ret
  exact⟨rfl,G.out⟩
 by_cases q3:60 < st.drs.length
 ·have q:((60:Int) < (st.drs.length:Int)):=by omega
  have q':¬ ((300:Int) < (st.fls.length:Int)):=by omega
  have q'':¬ ((40:Int) < (st.bks.length:Int)):=by omega
  have K:=Lib.hid (HAW.out _ _ G0.out)
  clear q1 q2 q3 HAW G0 G1 hz g0 hVA hwr hn
  go_enter Tryz.func4,Tryz.ntmps4
  go_wp2_with fail
  refine K.out.mono ?_
  rintro e w2 ⟨rfl,g⟩
  have G:=Lib.hid g.mod
  clear g K
  go_wp2_with fail
  go_ret
  exact⟨rfl,G.out⟩
 have r1:decide ((300:Int) < (st.fls.length:Int))=false:=decide_eq_false (by omega)
 have r2:decide ((40:Int) < (st.bks.length:Int))=false:=decide_eq_false (by omega)
 have r3:decide ((60:Int) < (st.drs.length:Int))=false:=decide_eq_false (by omega)
 obtain⟨n,hn1,hn2⟩:=bounds_same (R:=[Cells W.heap.size #[.int .i64 st.gen,.slice A st.bks.length a,.slice D st.drs.length d,.slice F st.fls.length f] 36]) (a:=a) (d:=d) (f:=f) version size (hVA _) hn (by omega) (by omega) (by omega) hwr
 have K1:=Lib.hid hn1
 have K2:=Lib.hid hn2
 have hnn:(n == n)=true:=beq_self_eq_true n
 obtain⟨w1,hw1⟩:∃ w1,w1=W.alloc (.cells #[.int .i64 st.gen,.slice A st.bks.length a,.slice D st.drs.length d,.slice F st.fls.length f] 36):=⟨_,rfl⟩
 have HW:=Lib.hid hw1
 rw [← hw1] at z0 z1 z2 z3 hz G0 G1
 clear hn1 hn2 q1 q2 q3 g0 hVA hwr hn hw1 G0
 go_enter Tryz.func4,Tryz.ntmps4
 go_upto_region 1 with fail
 rw [← HW.out]
 clear HW
 go_wp2_with fail
 clear z0 z1 z2 z3
 generalize W.heap.size=g at *
 go_region_held3 (fun w'=>w'.cell? ⟨g,0,none⟩=some (.int .i64 st.gen)∧w'.cell? ⟨g,1,none⟩=some (.slice A st.bks.length a)∧w'.cell? ⟨g,2,none⟩=some (.slice D st.drs.length d)∧w'.cell? ⟨g,3,none⟩=some (.slice F st.fls.length f)) (first | exact hz4 | exact hz3 | exact hz2 | exact hz) (first
  | (go_at_call 17;refine (HAW.out _ _ G3.out).mono ?_;rintro e w6 ⟨rfl,g6⟩;have hz4:=cells4 (g6.block 0 rfl);have G4:=Lib.hid g6;clear g6)
  | (go_at_call 21;refine (o_cpneeds_none _ _).mono ?_;rintro e w5 ⟨rfl,rfl⟩)
  | (go_at_call 20;refine (o_cpdo_none _).mono ?_;rintro e w5 ⟨rfl,rfl⟩)
  | (go_at_call 19;refine (K2.out _ G2.out).mono ?_;rintro e w4 ⟨rfl,g4⟩;have hz3:=cells4 (g4.block 0 rfl);have G3:=Lib.hid g4;clear g4)
  | (go_at_call 18;refine (K1.out _ G1.out).mono ?_;rintro e w3 ⟨rfl,g3⟩;have hz2:=cells4 (g3.block 0 rfl);have G2:=Lib.hid g3;clear g3))
 have G:=Lib.hid G4.out.mod
 clear G1 G2 G3 G4 hz hz2 hz3 hz4 K1 K2 HAW
 go_wp2_with fail
 go_ret
 exact⟨rfl,G.out⟩
end Go.Proofs.YtaopfagclnocdaaGreat
