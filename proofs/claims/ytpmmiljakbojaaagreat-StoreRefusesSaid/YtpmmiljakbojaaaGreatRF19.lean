/- Rows.StoreRefusesSaid -/
import Derived.Test.YtpmmiljakbojaaaGreatRF18
import Derived.Test.YtpmmiljakbojaaaGreatRF14
import Derived.Test.YtpmmiljakbojaaaGreatRF12
import Derived.Test.YtpmmiljakbojaaaGreatRF6
import Derived.BigQuiet
import Derived.Deep.QuietTactic
namespace Go.Proofs.YtpmmiljakbojaaaGreat
open Go.RowKit
open Go.Maps (Keyed)
set_option linter.unusedVariables false
set_option maxHeartbeats 64000000
set_option maxRecDepth 100000
def stGetF (t:Tup) (L:List Fl):Fl:=(L.find? (fun x=>decide (x.t=t))).getD zeroF
def stGetD (b:Int) (L:List (Int×Int)):Int:=((L.find? (fun x=>decide (x.1=b))).map (·.2)).getD 0
section
variable {F0:List Nat} {w0 w:World} {R:List Asrt} {sb:Nat} {s:StD} {fm dm:Nat} {L:List Fl} {M:List (Int×Int)}
theorem stGetF_eq (hs:SrtF L) {x:Fl} (hx:x∈L):stGetF x.t L=x:=by
 unfold stGetF
 cases e:L.find? (fun y=>decide (y.t=x.t)) with
 | none=>have:=List.find?_eq_none.1 e x hx;simp at this
 | some y=>
  have h1:=List.find?_some e
  have h2:=List.mem_of_find?_eq_some e
  simp only [decide_eq_true_eq] at h1
  exact ek_inj (nodup_svT hs) h2 hx (show svT y=svT x by simp only [svT,h1])
theorem stGetD_eq (hs:SrtD M) {x:Int×Int} (hx:x∈M):stGetD x.1 M=x.2:=by
 unfold stGetD
 cases e:M.find? (fun y=>decide (y.1=x.1)) with
 | none=>have:=List.find?_eq_none.1 e x hx;simp at this
 | some y=>
  have h1:=List.find?_some e
  have h2:=List.mem_of_find?_eq_some e
  simp only [decide_eq_true_eq] at h1
  have:y=x:=ek_inj (nodup_sdK hs) h2 hx (by simp only [sdK,h1])
  rw [this];rfl
theorem stGetF_no {t:Tup} (h:∀ x∈L,x.t≠t):stGetF t L=zeroF:=by
 unfold stGetF
 rw [List.find?_eq_none.2 (fun x hx=>by simpa using h x hx)];rfl
theorem stGetD_no {b:Int} (h:∀ x∈M,x.1≠b):stGetD b M=0:=by
 unfold stGetD
 rw [List.find?_eq_none.2 (fun x hx=>by simpa using h x hx)];rfl
theorem sf_get (h:In F0 w0 w R) (i:Nat) (hA:R[i]?=some (SFM fm L)) (hs:SrtF L) {t:Tup} (wt:WfT t):(Instr.lookup 114 (.map (some fm)) (.agg (encT t)) true).run Tryz.prog w=.ok (.tuple #[.agg (encF (stGetF t L)),.bool (stHasF t L)]) w:=by
 obtain⟨kl,hkl⟩:=keyOf_tup wt
 rcases tab_look h i hA tupLaw Tryz.underlying114 (zero_flowS w) hkl true with ⟨x,hx,e,hr⟩|⟨hn,hr⟩
 ·have e2:x.t=t:=svT_inj (y:=⟨t,0,0,0⟩) e
  have:stHasF t L=true:=stHasF_iff.2 ⟨x,hx,e2⟩
  rw [this,← e2,stGetF_eq hs hx];rw [e2];exact hr
 ·have hn2:∀ x∈L,x.t≠t:=fun x hx e=>hn x hx (by rw [← e])
  have:stHasF t L=false:=by
   cases e:stHasF t L with
   | false=>rfl
   | true=>obtain⟨x,hx,e⟩:=stHasF_iff.1 e;exact absurd e (hn2 x hx)
  rw [this,stGetF_no hn2];exact hr
theorem sd_get (h:In F0 w0 w R) (i:Nat) (hA:R[i]?=some (SDM dm M)) (hs:SrtD M) {b:Int} (hb:(Lit.int .i64 b).wf=true):(Instr.lookup 113 (.map (some dm)) (.int .i64 b) true).run Tryz.prog w=.ok (.tuple #[.int .i64 (stGetD b M),.bool (stHasD b M)]) w:=by
 rcases tab_look h i hA intLawS Tryz.underlying113 (z:=.int .i64 0) (by kernel_rfl) (Maps.keyOf_int_mk Tryz.underlying3 hb) true with ⟨x,hx,e,hr⟩|⟨hn,hr⟩
 ·simp only [sdK,Value.int.injEq,true_and] at e
  have:stHasD b M=true:=stHasD_iff.2 ⟨x,hx,e⟩
  rw [this,← e,stGetD_eq hs hx];rw [e];exact hr
 ·have hn2:∀ x∈M,x.1≠b:=fun x hx e=>hn x hx (by rw [← e])
  have:stHasD b M=false:=by
   cases e:stHasD b M with
   | false=>rfl
   | true=>obtain⟨x,hx,e⟩:=stHasD_iff.1 e;exact absurd e (hn2 x hx)
  rw [this,stGetD_no hn2];exact hr
def FuPost (b:Bool) (sb:Nat) (s:StD) (F0:List Nat) (w0:World) (R:List Asrt) (e:Ending) (w':World):Prop:=e=.returned (.bool b)∧In F0 w0 w' (StA sb s::R)
theorem o_full0 {r:Rec} {A:Option Addr} {c:Nat} (k1:r.kind≠1) (k4:r.kind≠4) (h:In F0 w0 w (StA sb s::R)):Calls Tryz.prog 68 #[pR sb,agR r A c] w (FuPost false sb s F0 w0 R):=by
 have HH:=Lib.hid fun o=>h.alloc o
 have q1:(r.kind == 1)=false:=beq_eq_false_iff_ne.2 k1
 have q4:(r.kind == 4)=false:=beq_eq_false_iff_ne.2 k4
 clear h k1 k4
 obtain⟨kind,⟨⟨src,dst,proto,sport,dport⟩,fbk,fgen,fseen⟩,gen,bks,bk,till,count⟩:=r
 simp only at q1 q4
 go_enter Tryz.func68,Tryz.ntmps68
 go_wp2_with fail
 go_ret
 exact⟨rfl,HH.out _⟩
theorem o_full4 {fl:Fl} {gen bk till count:Int} {bks:List Bk} {A:Option Addr} {c:Nat} (hb:(Lit.int .i64 bk).wf=true) (h:In F0 w0 w (StA sb s::R)):Calls Tryz.prog 68 #[pR sb,agR ⟨4,fl,gen,bks,bk,till,count⟩ A c] w (FuPost (!stHasD bk s.drs && decide (16≤s.drs.length)) sb s F0 w0 R):=by
 obtain⟨⟨src,dst,proto,sport,dport⟩,fbk,fgen,fseen⟩:=fl
 obtain⟨hok,dm,fm,a,c',h1⟩:=h.stOpen
 obtain⟨w1,hw1⟩:∃ w1,w1=w.alloc (.cells #[.int .i64 4,.int .u32 src,.int .u32 dst,.int .i64 proto,.int .i64 sport,.int .i64 dport,.int .i64 fbk,.int .i64 fgen,.int .i64 fseen,.int .i64 gen,.slice A bks.length c,.int .i64 bk,.int .i64 till,.int .i64 count] 39):=⟨_,rfl⟩
 have h2:=h1.cells #[.int .i64 4,.int .u32 src,.int .u32 dst,.int .i64 proto,.int .i64 sport,.int .i64 dport,.int .i64 fbk,.int .i64 fgen,.int .i64 fseen,.int .i64 gen,.slice A bks.length c,.int .i64 bk,.int .i64 till,.int .i64 count] 39
 rw [← hw1] at h2
 have c0:w1.cell? ⟨sb,2,none⟩=some (.map (some dm)):=cell_of (h2.block 1 rfl) rfl
 have c1:w1.cell? ⟨w.heap.size,11,none⟩=some (.int .i64 bk):=cell_of (h2.block 0 rfl) rfl
 have l0:∀ n,(Instr.lookup 113 (.map (some dm)) (.int .i64 bk) true).run Tryz.prog (w1.drewN n)=.ok (.tuple #[.int .i64 (stGetD bk s.drs),.bool (stHasD bk s.drs)]) (w1.drewN n):=fun n=>sd_get (h2.drewN n) 3 rfl hok.dsort hb
 have l1:∀ n ty,(Builtin.len_ #[113] ty #[.map (some dm)]).run Tryz.prog (w1.drewN n)=.ok (.int .i64 s.drs.length) (w1.drewN n):=fun n ty=>tab_len (h2.drewN n) 3 rfl Tryz.underlying113 ty
 have HF:=Lib.hid (fun n=>In.stClose hok (h2.drewN n).drop)
 have HW:=Lib.hid hw1
 have HL:Hid (s.drs.length < 16∨16≤s.drs.length):=Lib.hid (by omega)
 clear h h1 h2 hb hok hw1
 generalize stHasD bk s.drs=q at *
 generalize stGetD bk s.drs=u at *
 go_enter Tryz.func68,Tryz.ntmps68
 go_wp2_with fail
 rw [← HW.out]
 go_quiet (fail)
 cases q with
 | true=>
  go_wp2_with fail
  go_ret
  exact⟨rfl,HF.out _⟩
 | false=>
  rcases HL.out with hl | hl
  ·have H1:decide (16≤s.drs.length)=false:=decide_eq_false (by omega)
   have H2:decide ((16:Int)≤(s.drs.length:Int))=false:=decide_eq_false (by omega)
   have HP:Hid (FuPost (!false && decide (16≤s.drs.length)) sb s F0 w0 R (.returned (.bool false)) (w1.drewN nq)):=Lib.hid ⟨by rw [H1];rfl,HF.out nq⟩
   clear hl H1
   go_wp2_with fail
   go_ret
   exact HP.out
  ·have H1:decide (16≤s.drs.length)=true:=decide_eq_true hl
   have H2:decide ((16:Int)≤(s.drs.length:Int))=true:=decide_eq_true (by omega)
   have HP:Hid (FuPost (!false && decide (16≤s.drs.length)) sb s F0 w0 R (.returned (.bool true)) (w1.drewN nq)):=Lib.hid ⟨by rw [H1];rfl,HF.out nq⟩
   clear hl H1
   go_wp2_with fail
   go_ret
   exact HP.out
theorem o_full1 {src dst proto sport dport fbk fgen fseen gen bk till count:Int} {bks:List Bk} {A:Option Addr} {c:Nat} (wt:WfT ⟨src,dst,proto,sport,dport⟩) (h:In F0 w0 w (StA sb s::R)):Calls Tryz.prog 68 #[pR sb,agR ⟨1,⟨⟨src,dst,proto,sport,dport⟩,fbk,fgen,fseen⟩,gen,bks,bk,till,count⟩ A c] w (FuPost (!stHasF ⟨src,dst,proto,sport,dport⟩ s.fls && decide (256≤s.fls.length)) sb s F0 w0 R):=by
 obtain⟨hok,dm,fm,a,c',h1⟩:=h.stOpen
 obtain⟨w1,hw1⟩:∃ w1,w1=w.alloc (.cells #[.int .i64 1,.int .u32 src,.int .u32 dst,.int .i64 proto,.int .i64 sport,.int .i64 dport,.int .i64 fbk,.int .i64 fgen,.int .i64 fseen,.int .i64 gen,.slice A bks.length c,.int .i64 bk,.int .i64 till,.int .i64 count] 39):=⟨_,rfl⟩
 have h2:=h1.cells #[.int .i64 1,.int .u32 src,.int .u32 dst,.int .i64 proto,.int .i64 sport,.int .i64 dport,.int .i64 fbk,.int .i64 fgen,.int .i64 fseen,.int .i64 gen,.slice A bks.length c,.int .i64 bk,.int .i64 till,.int .i64 count] 39
 rw [← hw1] at h2
 have c0:w1.cell? ⟨sb,3,none⟩=some (.map (some fm))∧w1.cell? ⟨w.heap.size,1,none⟩=some (.int .u32 src)∧w1.cell? ⟨w.heap.size,2,none⟩=some (.int .u32 dst)∧w1.cell? ⟨w.heap.size,3,none⟩=some (.int .i64 proto)∧w1.cell? ⟨w.heap.size,4,none⟩=some (.int .i64 sport)∧w1.cell? ⟨w.heap.size,5,none⟩=some (.int .i64 dport):=⟨cell_of (h2.block 1 rfl) rfl,cell_of (h2.block 0 rfl) rfl,cell_of (h2.block 0 rfl) rfl,cell_of (h2.block 0 rfl) rfl,cell_of (h2.block 0 rfl) rfl,cell_of (h2.block 0 rfl) rfl⟩
 have l0:(Instr.lookup 114 (.map (some fm)) (.agg (encT ⟨src,dst,proto,sport,dport⟩)) true).run Tryz.prog w1.drew=.ok (.tuple #[.agg (encF (stGetF ⟨src,dst,proto,sport,dport⟩ s.fls)),.bool (stHasF ⟨src,dst,proto,sport,dport⟩ s.fls)]) w1.drew:=sf_get (h2.drewN 1) 4 rfl hok.fsort wt
 have l1:(Instr.lookup 114 (.map (some fm)) (.agg (encT ⟨src,dst,proto,sport,dport⟩)) true).run Tryz.prog (w1.alloc (.cells #[.int .u32 0,.int .u32 0,.int .i64 0,.int .i64 0,.int .i64 0,.int .i64 0,.int .i64 0,.int .i64 0] 36)).drew=.ok (.tuple #[.agg (encF (stGetF ⟨src,dst,proto,sport,dport⟩ s.fls)),.bool (stHasF ⟨src,dst,proto,sport,dport⟩ s.fls)]) (w1.alloc (.cells #[.int .u32 0,.int .u32 0,.int .i64 0,.int .i64 0,.int .i64 0,.int .i64 0,.int .i64 0,.int .i64 0] 36)).drew:=sf_get ((h2.alloc (.cells #[.int .u32 0,.int .u32 0,.int .i64 0,.int .i64 0,.int .i64 0,.int .i64 0,.int .i64 0,.int .i64 0] 36)).drewN 1) 4 rfl hok.fsort wt
 have HO:=Lib.hid h2
 have HK:=Lib.hid hok
 have HW:=Lib.hid hw1
 have HL:Hid (s.fls.length < 256∨256≤s.fls.length):=Lib.hid (by omega)
 clear h h1 h2 wt hok hw1
 generalize stHasF ⟨src,dst,proto,sport,dport⟩ s.fls=q at *
 generalize stGetF ⟨src,dst,proto,sport,dport⟩ s.fls=fv at *
 obtain⟨⟨f1,f2,f3,f4,f5⟩,f6,f7,f8⟩:=fv
 go_enter Tryz.func68,Tryz.ntmps68
 go_wp2_with fail
 rw [← HW.out]
 clear HW
 generalize w.heap.size=g at *
 go_region_held3 (fun w'=>w'.cell? ⟨sb,3,none⟩=some (.map (some fm))∧w'.cell? ⟨g,1,none⟩=some (.int .u32 src)∧w'.cell? ⟨g,2,none⟩=some (.int .u32 dst)∧w'.cell? ⟨g,3,none⟩=some (.int .i64 proto)∧w'.cell? ⟨g,4,none⟩=some (.int .i64 sport)∧w'.cell? ⟨g,5,none⟩=some (.int .i64 dport)) (go_keep) (fail)
 all_goals
  clear l0 l1 c0
  have HX:=Lib.hid (HO.out.alloc (.cells #[.int .u32 f1,.int .u32 f2,.int .i64 f3,.int .i64 f4,.int .i64 f5,.int .i64 f6,.int .i64 f7,.int .i64 f8] 36))
  generalize (w1.alloc (.cells #[.int .u32 f1,.int .u32 f2,.int .i64 f3,.int .i64 f4,.int .i64 f5,.int .i64 f6,.int .i64 f7,.int .i64 f8] 36))=W at *
  have d0:W.drew.cell? ⟨sb,3,none⟩=some (.map (some fm)):=cell_of ((HX.out.drewN 1).block 1 rfl) rfl
  have d1:∀ ty,(Builtin.len_ #[114] ty #[.map (some fm)]).run Tryz.prog W.drew=.ok (.int .i64 s.fls.length) W.drew:=fun ty=>tab_len (HX.out.drewN 1) 4 rfl Tryz.underlying114 ty
  have HF:Hid (In F0 w0 W.drew (StA sb s::R)):=Lib.hid (In.stClose HK.out (HX.out.drewN 1).drop)
  clear HX HO HK
  cases q with
  | true=>
   clear d1
   go_wp2_with fail
   go_ret
   exact⟨rfl,HF.out⟩
  | false=>
   rcases HL.out with hl | hl
   ·have H1:decide (256≤s.fls.length)=false:=decide_eq_false (by omega)
    have H2:decide ((256:Int)≤(s.fls.length:Int))=false:=decide_eq_false (by omega)
    have HP:Hid (FuPost (!false && decide (256≤s.fls.length)) sb s F0 w0 R (.returned (.bool false)) W.drew):=Lib.hid ⟨by rw [H1];rfl,HF.out⟩
    clear hl H1 HL
    go_wp2_with fail
    go_ret
    exact HP.out
   ·have H1:decide (256≤s.fls.length)=true:=decide_eq_true hl
    have H2:decide ((256:Int)≤(s.fls.length:Int))=true:=decide_eq_true (by omega)
    have HP:Hid (FuPost (!false && decide (256≤s.fls.length)) sb s F0 w0 R (.returned (.bool true)) W.drew):=Lib.hid ⟨by rw [H1];rfl,HF.out⟩
    clear hl H1 HL
    go_wp2_with fail
    go_ret
    exact HP.out
theorem o_full {r:Rec} {A:Option Addr} {c:Nat} (wr:WfR r) (hm:mayRec r=true) (h:In F0 w0 w (StA sb s::R)):Calls Tryz.prog 68 #[pR sb,agR r A c] w (FuPost (fullSt s r) sb s F0 w0 R):=by
 by_cases k1:r.kind=1
 ·have e:fullSt s r=(!stHasF r.fl.t s.fls && decide (256≤s.fls.length)):=by unfold fullSt;rw [if_pos k1]
  rw [e]
  obtain⟨kind,⟨⟨src,dst,proto,sport,dport⟩,fbk,fgen,fseen⟩,gen,bks,bk,till,count⟩:=r
  subst k1
  exact o_full1 wr.t h
 by_cases k4:r.kind=4
 ·have e:fullSt s r=(!stHasD r.bk s.drs && decide (16≤s.drs.length)):=by unfold fullSt;rw [if_neg k1,if_pos k4]
  rw [e]
  have hb:(Lit.int .i64 r.bk).wf=true:=by
   rw [mayRec_iff] at hm
   exact wf_i64 (by omega) (by omega)
  obtain⟨kind,fl,gen,bks,bk,till,count⟩:=r
  subst k4
  exact o_full4 hb h
 ·have e:fullSt s r=false:=by unfold fullSt;rw [if_neg k1,if_neg k4]
  rw [e]
  exact o_full0 k1 k4 h
end
theorem upId_snoc:∀ (l:List Bk) (b:Bk),upId (l++[b])=(upId l && (match l.getLast? with | none=>true | some a=>decide (a.id < b.id)))
 | [],b=>rfl
 | [a],b=>by simp [upId]
 | a::c::r,b=>by
  have ih:=upId_snoc (c::r) b
  simp only [List.cons_append] at ih ⊢
  simp only [upId,ih,List.getLast?_cons_cons,Bool.and_assoc]
theorem gn_weighed (x:Int) (w:World):Calls Tryz.prog 118 #[.int .i64 x] w fun e w'=>e=.returned (.bool (decide (1≤x∧x≤10)))∧w'=w:=by
 by_cases h0:1≤x
 ·by_cases h1:x≤10
  ·have e:decide (1≤x∧x≤10)=true:=decide_eq_true ⟨h0,h1⟩
   rw [e];clear e
   go_enter Tryz.func118,Tryz.ntmps118
   go_wp2_with fail
   go_ret
   exact⟨rfl,rfl⟩
  ·have e:decide (1≤x∧x≤10)=false:=decide_eq_false (fun h=>h1 h.2)
   have q:decide (x≤10)=false:=decide_eq_false h1
   rw [e];clear e h1
   go_enter Tryz.func118,Tryz.ntmps118
   go_wp2_with fail
   go_ret
   exact⟨rfl,rfl⟩
 ·have e:decide (1≤x∧x≤10)=false:=decide_eq_false (fun h=>h0 h.1)
  have q:decide (1≤x)=false:=decide_eq_false h0
  rw [e];clear e h0
  go_enter Tryz.func118,Tryz.ntmps118
  go_wp2_with fail
  go_ret
  exact⟨rfl,rfl⟩
section
variable {F0:List Nat} {w0 w:World} {R:List Asrt}
def GnRel (l:List Bk) (F0:List Nat) (w0:World) (R:List Asrt) (i:Value) (wr:World):Prop:=
 ∃ k:Nat,k≤l.length∧i=.int .i64 k∧(∀ b∈l.take k,mayBk b=true)∧upId (l.take k)=true∧In F0 w0 wr R
def GnPost (r:Bool) (F0:List Nat) (w0:World) (R:List Asrt) (e:Ending) (w':World):Prop:=e=.returned (.bool r)∧In F0 w0 w' R
def gnOk (l:List Bk) (k:Nat) (b:Bk):Bool:=mayBk b && (match (l.take k).getLast? with | none=>true | some a=>decide (a.id < b.id))
theorem gn_step {l:List Bk} {k:Nat} {b:Bk} (hb:l[k]?=some b) (ha:∀ b∈l.take k,mayBk b=true) (hu:upId (l.take k)=true) (h:gnOk l k b=true) (hi:In F0 w0 w R):GnRel l F0 w0 R (.int .i64 ((k:Int)+1)) w:=by
 simp only [gnOk,Bool.and_eq_true] at h
 have ht:l.take (k+1)=l.take k++[b]:=by rw [List.take_add_one,hb];rfl
 refine⟨k+1,(List.getElem?_eq_some_iff.1 hb).1,by rw [Int.natCast_add];rfl,fun x hx=>?_,?_,hi⟩
 ·rw [ht] at hx
  rcases List.mem_append.1 hx with hx | hx
  ·exact ha x hx
  ·simp at hx;subst hx;exact h.1
 ·rw [ht,upId_snoc,hu,h.2];rfl
theorem upId_take:∀ (l:List Bk) (k:Nat),upId l=true→upId (l.take k)=true
 | [],k,_=>by simp [upId]
 | a::r,0,_=>rfl
 | [a],k+1,_=>by simp [upId]
 | a::c::r,1,_=>rfl
 | a::c::r,k+2,h=>by
  simp only [upId,Bool.and_eq_true] at h
  have:=upId_take (c::r) (k+1) h.2
  simp only [List.take_succ_cons] at this ⊢
  simp only [upId,Bool.and_eq_true]
  exact⟨h.1,this⟩
theorem gn_no {l:List Bk} {k:Nat} {b:Bk} (hb:l[k]?=some b) (h:gnOk l k b=false):gensMay l=false:=by
 cases hg:gensMay l with
 | false=>rfl
 | true=>
  simp only [gensMay,Bool.and_eq_true,decide_eq_true_eq,List.all_eq_true] at hg
  have h1:=hg.2.1 b (List.mem_of_getElem? hb)
  have ht:l.take (k+1)=l.take k++[b]:=by rw [List.take_add_one,hb];rfl
  have h2:=upId_take l (k+1) hg.2.2
  rw [ht,upId_snoc] at h2
  simp only [Bool.and_eq_true] at h2
  unfold gnOk at h
  rw [h1,h2.2] at h
  cases h
theorem gn_last {l:List Bk} {k:Nat} (hk:k+1≤l.length):∃ a,l[k]?=some a∧(l.take (k+1)).getLast?=some a:=by
 obtain⟨a,ha⟩:∃ a,l[k]?=some a:=⟨l[k]'(by omega),List.getElem?_eq_getElem _⟩
 exact⟨a,ha,by rw [List.take_add_one,ha];simp⟩
theorem o_gnmay {l:List Bk} {A:Option Addr} {c:Nat} (hs:BksAt F0 w0 R A l) (hl:l.length≤1000000000) (h:In F0 w0 w R):Calls Tryz.prog 67 #[.slice A l.length c] w (GnPost (gensMay l) F0 w0 R):=by
 by_cases h16:16 < l.length
 ·have e:gensMay l=false:=by unfold gensMay;rw [decide_eq_false (by omega)];rfl
  have q:(16:Int) < (l.length:Int):=by omega
  have G:=Lib.hid h
  rw [e]
  clear e h h16 hs hl
  go_enter Tryz.func67,Tryz.ntmps67
  go_wp2_with fail
  go_ret
  exact⟨rfl,G.out⟩
 have q16:decide ((16:Int) < (l.length:Int))=false:=decide_eq_false (by omega)
 have HL16:Hid (l.length≤16):=Lib.hid (Nat.le_of_not_lt h16)
 have HR:Hid (GnRel l F0 w0 R (.int .i64 0) w):=Lib.hid ⟨0,Nat.zero_le _,rfl,by simp,rfl,h⟩
 have HS:=Lib.hid hs
 clear h hs hl h16
 go_enter Tryz.func67,Tryz.ntmps67
 go_wp2_with fail
 go_loopw [10] (GnRel l F0 w0 R) (fun k _=>l.length - (intOf k).toNat)
 case atStart=>exact HR.out
 case round=>
  obtain⟨k,hk,rfl,hall,hup,hio⟩:=hrel
  clear HR
  by_cases hlt:k < l.length
  ·obtain⟨b,hb⟩:∃ b,l[k]?=some b:=⟨l[k],List.getElem?_eq_getElem hlt⟩
   obtain⟨g,o,rfl,c0,c1,c2⟩:=HS.out.cell hio hb
   have hlt':(k:Int) < (l.length:Int):=Int.ofNat_lt.2 hlt
   have hw2:wrap64 ((k:Int)+1)=(k:Int)+1:=by have:=HL16.out;unfold wrap64;omega
   have HN:=Lib.hid (fun (h1:gnOk l k b=true) w' (h':In F0 w0 w' R)=>gn_step (w:=w') hb hall hup h1 h')
   have HX:=Lib.hid (fun (h1:gnOk l k b=false) w' (h':In F0 w0 w' R)=>(show GnPost (gensMay l) F0 w0 R (.returned (.bool false)) w' from ⟨by rw [gn_no hb h1],h'⟩))
   have HIO:Hid (∀ o n,In F0 w0 ((wr.alloc o).drewN n) R):=Lib.hid fun o n=>(hio.alloc o).drewN n
   have KW:=Lib.hid (gn_weighed b.weight)
   have HK0:Hid (∀ a,k≠0→l[k - 1]?=some a→wr.cell? ⟨g,o+(k - 1) * 3,none⟩=some (.int .i64 a.id)):=Lib.hid fun a _ ha=>by
    obtain⟨g',o',e,d0,_⟩:=HS.out.cell hio ha
    cases e;exact d0
   obtain⟨id,addr,wt⟩:=b
   simp only at c0 c1 c2 KW
   have hmb:mayBk ⟨id,addr,wt⟩=(inB id 65535 && decide (1≤wt∧wt≤10)):=rfl
   by_cases hA:id < 0
   ·have HX2:=Lib.hid (HX.out (by unfold gnOk;rw [hmb];unfold inB;rw [decide_eq_false (by omega)];rfl))
    clear HX HN HK0 hio hall hup hb hlt hk hmb
    go_wp2_with fail
    go_quiet (fail)
    go_wp2_with fail
    go_ret
    exact HX2.out _ (HIO.out _ _)
   have qA:decide (id < 0)=false:=decide_eq_false hA
   by_cases hB:65535 < id
   ·have HX2:=Lib.hid (HX.out (by unfold gnOk;rw [hmb];unfold inB;rw [decide_eq_false (by omega)];rfl))
    clear HX HN HK0 hio hall hup hb hlt hk hmb hA
    go_wp2_with fail
    go_quiet (fail)
    go_wp2_with fail
    go_ret
    exact HX2.out _ (HIO.out _ _)
   have qB:decide (65535 < id)=false:=decide_eq_false hB
   have hin:inB id 65535=true:=decide_eq_true (by omega)
   rw [hin,Bool.true_and] at hmb
   cases hC:decide (1≤wt∧wt≤10) with
   | false=>
    rw [hC] at KW
    have HX2:=Lib.hid (HX.out (by unfold gnOk;rw [hmb,hC];rfl))
    clear HX HN HK0 hio hall hup hb hlt hk hmb hA hB hin hC
    go_wp2_with fail
    go_quiet ((go_at_call 118;exact Calls.quiet_of_same (KW.out _)))
    go_wp2_with fail
    go_ret
    exact HX2.out _ (HIO.out _ _)
   | true=>
    rw [hC] at KW
    rw [hC] at hmb
    by_cases hD:k=0
    ·have hgo:gnOk l k ⟨id,addr,wt⟩=true:=by unfold gnOk;rw [hmb,hD];rfl
     have HN2:=Lib.hid (HN.out hgo)
     have qD:decide ((0:Int) < (k:Int))=false:=decide_eq_false (by omega)
     have qD':decide (0 < k)=false:=decide_eq_false (by omega)
     clear HX HN HK0 hio hall hup hb hlt hk hmb hA hB hin hC hgo hD
     go_wp2_with fail
     go_quiet ((go_at_call 118;exact Calls.quiet_of_same (KW.out _)))
     go_wp2_with fail
     go_roundw
     case rel=>(try rw [hw2]);exact HN2.out _ (HIO.out _ _)
     case measure=>(try rw [hw2]);exact meas_lt hlt'
    ·have qD:(0:Int) < (k:Int):=by omega
     obtain⟨k',rfl⟩:∃ k',k=k'+1:=⟨k - 1,by omega⟩
     obtain⟨a,ha,hla⟩:=gn_last (l:=l) (k:=k') (by omega)
     have d0:=HK0.out a hD (by simpa using ha)
     rw [Nat.add_sub_cancel] at d0
     have hkc:(((k'+1:Nat):Int))=(k':Int)+1:=by omega
     have hsub:IntKind.i64.wrap (((k'+1:Nat):Int) - 1)=(k':Int):=by have:=HL16.out;rw [IntWalk.i64_in _ (by omega)];omega
     have hsub2:(((k'+1:Nat):Int) - 1)=(k':Int):=by omega
     have hkl:(k':Int) < (l.length:Int):=by omega
     have hsub3:IntKind.i64.wrap ((k':Int)+1 - 1)=(k':Int):=by have:=HL16.out;rw [IntWalk.i64_in _ (by omega)];omega
     have hsub4:((k':Int)+1 - 1)=(k':Int):=by omega
     have qD2:(0:Int) < (k':Int)+1:=by omega
     have hsub5:IntKind.i64.wrap (k':Int)=(k':Int):=by have:=HL16.out;exact IntWalk.i64_in _ (by omega)
     have hkl2:k' < l.length:=by omega
     have hw3:wrap64 ((k':Int)+1+1)=((k'+1:Nat):Int)+1:=by have:=HL16.out;unfold wrap64;omega
     have hb3:=hio.cells #[.int .i64 id,.int .u32 addr,.int .i64 wt] 119
     have y0:(wr.alloc (.cells #[.int .i64 id,.int .u32 addr,.int .i64 wt] 119)).cell? ⟨wr.heap.size,0,none⟩=some (.int .i64 id):=cell_of (hb3.block 0 rfl) rfl
     have y2:(wr.alloc (.cells #[.int .i64 id,.int .u32 addr,.int .i64 wt] 119)).cell? ⟨wr.heap.size,2,none⟩=some (.int .i64 wt):=cell_of (hb3.block 0 rfl) rfl
     have y3:(wr.alloc (.cells #[.int .i64 id,.int .u32 addr,.int .i64 wt] 119)).cell? ⟨g,o+k' * 3,none⟩=some (.int .i64 a.id):=by rw [World.cell?_alloc_lt _ _ _ (World.block_lt_of_cell? _ _ d0)];exact d0
     clear hb3
     by_cases hE:id≤a.id
     ·have HX2:=Lib.hid (HX.out (by unfold gnOk;rw [hmb,hla];simp;omega))
      clear HX HN HK0 hio hall hup hb hlt hk hmb hA hB hin hC hD ha hla hkc
      go_wp2_with fail
      go_region_held3 (fun w'=>w'.cell? ⟨wr.heap.size,0,none⟩=some (.int .i64 id)∧w'.cell? ⟨wr.heap.size,2,none⟩=some (.int .i64 wt)∧w'.cell? ⟨g,o+k' * 3,none⟩=some (.int .i64 a.id)) (first | exact⟨y0,y2,y3⟩ | go_keep) (first | (go_at_call 118;refine (KW.out _).mono ?_;rintro e w5 ⟨rfl,rfl⟩))
      go_wp2_with fail
      go_ret
      exact HX2.out _ (HIO.out _ 1)
     ·have qE:decide (id≤a.id)=false:=decide_eq_false hE
      have HN2:=Lib.hid (HN.out (by unfold gnOk;rw [hmb,hla];simp;omega))
      clear HX HN HK0 hio hall hup hb hlt hk hmb hA hB hin hC hD ha hla hE hkc
      go_wp2_with fail
      go_region_held3 (fun w'=>w'.cell? ⟨wr.heap.size,0,none⟩=some (.int .i64 id)∧w'.cell? ⟨wr.heap.size,2,none⟩=some (.int .i64 wt)∧w'.cell? ⟨g,o+k' * 3,none⟩=some (.int .i64 a.id)) (first | exact⟨y0,y2,y3⟩ | go_keep) (first | (go_at_call 118;refine (KW.out _).mono ?_;rintro e w5 ⟨rfl,rfl⟩))
      go_wp2_with fail
      go_roundw
      case rel=>(try rw [hw2]);(try rw [hw3]);exact HN2.out _ (HIO.out _ 1)
      case measure=>(try rw [hw2]);(try rw [hw3]);exact meas_lt hlt'
  ·have hge:(l.length:Int)≤(k:Int):=Int.ofNat_le.2 (Nat.le_of_not_lt hlt)
   have hkl:l.take k=l:=List.take_of_length_le (Nat.le_of_not_lt hlt)
   rw [hkl] at hall hup
   have e:gensMay l=true:=by
    unfold gensMay
    rw [decide_eq_true HL16.out,hup,List.all_eq_true.2 hall];rfl
   have G:Hid (GnPost (gensMay l) F0 w0 R (.returned (.bool true)) wr):=Lib.hid ⟨by rw [e],hio⟩
   clear hio hkl hall hup hk hlt e
   go_wp2_with fail
   go_ret
   exact G.out
end
end Go.Proofs.YtpmmiljakbojaaaGreat
