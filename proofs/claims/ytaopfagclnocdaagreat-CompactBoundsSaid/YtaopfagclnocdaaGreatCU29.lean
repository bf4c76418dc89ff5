/- Rows.CompactBoundsSaid -/
import Derived.Test.YtaopfagclnocdaaGreatCU19
import Derived.Test.YtaopfagclnocdaaGreatCU28
import Derived.Test.YtaopfagclnocdaaGreatCU16
import Derived.Test.YtaopfagclnocdaaGreatCU8
import Derived.Test.YtaopfagclnocdaaGreatCU3
import Derived.Test.YtaopfagclnocdaaGreatCU2
namespace Go.Proofs.YtaopfagclnocdaaGreat
open Go.RowKit
set_option linter.unusedVariables false
set_option maxHeartbeats 64000000
set_option maxRecDepth 100000
abbrev FlR (v:Value) (l:List Fl):Asrt:=RowA 43 8 v l.length ((l.map encFs).flatten)
theorem OkSt.lens {s:StD} (h:OkSt s):s.bks.length≤16∧s.drs.length≤16∧s.fls.length≤256:=⟨(gensMay_len h.bks).1,h.dlen,h.flen⟩
section
variable {F0:List Nat} {w0 w:World} {R:List Asrt} {sb:Nat} {s:StD}
theorem stV_of {A D G:Option Addr} {a d g:Nat} (i j k:Nat) (hb:R[i]?=some (BkR (.slice A s.bks.length a) s.bks)) (hd:R[j]?=some (DrR (.slice D s.drs.length d) s.drs)) (hf:R[k]?=some (FlR (.slice G s.fls.length g) s.fls)):AStV F0 w0 R s A D G:=
 ⟨fun w' h'=>by obtain⟨F,r⟩:=h'.get i hb;exact r.all,fun w' h'=>by obtain⟨F,r⟩:=h'.get j hd;exact r.all,fun w' h'=>by obtain⟨F,r⟩:=h'.get k hf;exact r.all⟩
theorem AStV.more {A D G:Option Addr} (v:AStV F0 w0 R s A D G) (X:Asrt):AStV F0 w0 (X::R) s A D G:=⟨fun w' h'=>v.bks w' h'.drop,fun w' h'=>v.drs w' h'.drop,fun w' h'=>v.fls w' h'.drop⟩
theorem o_records (h:In F0 w0 w (StA sb s::R)):Calls Tryz.prog 68 #[pR sb] w fun e w'=>∃ v pv,e=.returned v∧In F0 w0 w' (RowA 45 14 v (recsSt s).length (recsV pv (recsSt s))::BkR pv s.bks::StA sb s::R):=by
 have hl:=h.stOpen.1.lens
 have K1:=Lib.hid (o_stview h)
 have HL:=Lib.hid hl
 clear h hl
 go_enter Tryz.func68,Tryz.ntmps68
 go_wp2_with fail
 refine K1.out.mono ?_
 rintro e w1 ⟨A,a,D,d,F,f,rfl,g⟩
 obtain⟨Fv,rv⟩:=g.get 0 rfl
 have K2:=Lib.hid (o_strecs (a:=a) (d:=d) (f:=f) (stV_of 0 1 2 rfl rfl rfl) (fun e=>RowA.noc rv e) (Nat.le_trans HL.out.1 (by decide)) (Nat.le_trans HL.out.2.1 (by decide)) (Nat.le_trans HL.out.2.2 (by decide)) g)
 clear g rv K1
 go_wp2_with fail
 refine K2.out.mono ?_
 rintro e w2 ⟨v,pv,rfl,g2⟩
 have G:=Lib.hid (g2.sel2 (R1:=[_,_,_,_,_,_]) [0,1,5] (by decide) rfl)
 clear g2 K2
 go_wp2_with fail
 go_ret
 exact⟨_,_,rfl,G.out⟩
theorem o_records_at (h:In F0 w0 w R) (i:Nat) (hA:R[i]?=some (StA sb s)):Calls Tryz.prog 68 #[pR sb] w fun e w'=>∃ v pv,e=.returned v∧In F0 w0 w' (RowA 45 14 v (recsSt s).length (recsV pv (recsSt s))::BkR pv s.bks::R):=by
 obtain⟨hi,e⟩:=List.getElem?_eq_some_iff.1 hA
 have hp:R.Perm (StA sb s::(R.take i++R.drop (i+1))):=by
  conv=>lhs;rw [← List.take_append_drop i R,List.drop_eq_getElem_cons hi,e]
  exact List.perm_middle
 refine (o_records (h.perm hp)).mono ?_
 rintro e w' ⟨v,pv,rfl,g⟩
 exact⟨v,pv,rfl,g.perm (List.Perm.cons _ (List.Perm.cons _ hp.symm))⟩
end
theorem all_snoc {l:List Rec} {k:Nat} {x:Rec} {s:StD} (hx:l[k]?=some x) (h:(applyAll (l.take k) s).2=0) (h2:(applySt (applyAll (l.take k) s).1 x).2=0):applyAll (l.take (k+1)) s=((applySt (applyAll (l.take k) s).1 x).1,0):=by
 rw [List.take_add_one,hx,Option.toList_some,applyAll_app,if_neg (by simp [h])]
 show (if (applySt (applyAll (l.take k) s).1 x).2≠0 then applySt (applyAll (l.take k) s).1 x else applyAll [] (applySt (applyAll (l.take k) s).1 x).1)=_
 rw [if_neg (by simp [h2])];rfl
theorem all_err {l:List Rec} {k:Nat} {x:Rec} {s:StD} (hx:l[k]?=some x) (h:(applyAll (l.take k) s).2=0) (h2:(applySt (applyAll (l.take k) s).1 x).2≠0):applyAll l s=applySt (applyAll (l.take k) s).1 x:=by
 obtain⟨hk,hx'⟩:=List.getElem?_eq_some_iff.1 hx
 conv=>lhs;rw [← List.take_append_drop k l]
 rw [applyAll_app,if_neg (by simp [h]),List.drop_eq_getElem_cons hk,hx']
 show (if (applySt (applyAll (l.take k) s).1 x).2≠0 then applySt (applyAll (l.take k) s).1 x else _)=_
 rw [if_pos h2]
theorem recs_el {v:StD} {k:Nat} {x:Rec} (hx:(recsSt v)[k]?=some x):(k=0∧x.bks=v.bks)∨(k≠0∧x.bks=[]):=by
 cases k with
 | zero=>simp [recsSt] at hx;subst hx;exact Or.inl ⟨rfl,rfl⟩
 | succ k=>
  refine Or.inr ⟨by omega,?_⟩
  have hm:x∈v.drs.map recDr++v.fls.map recFl:=by
   simp only [recsSt,List.getElem?_cons_succ] at hx
   exact List.mem_of_getElem? hx
  rcases List.mem_append.1 hm with hm | hm
  ·obtain⟨d,_,rfl⟩:=List.mem_map.1 hm;rfl
  ·obtain⟨d,_,rfl⟩:=List.mem_map.1 hm;rfl
theorem of_err {v:StD} (h:(applyAll (recsSt v) zeroSt).2≠0):ofSt v=(none,(applyAll (recsSt v) zeroSt).2):=by unfold ofSt;rw [if_pos h]
theorem of_ok {v:StD} (h:(applyAll (recsSt v) zeroSt).2=0) (e:(applyAll (recsSt v) zeroSt).1=v):ofSt v=(some v,0):=by unfold ofSt;rw [if_neg (by simp [h]),if_pos e]
theorem of_ne {v:StD} (h:(applyAll (recsSt v) zeroSt).2=0) (e:(applyAll (recsSt v) zeroSt).1≠v):ofSt v=(none,1):=by unfold ofSt;rw [if_neg (by simp [h]),if_neg e]
section
variable {F0:List Nat} {w0 w:World} {R:List Asrt}
theorem AStV.moreL {v:StD} {A D G:Option Addr}:∀ (X:List Asrt),AStV F0 w0 R v A D G→AStV F0 w0 (X++R) v A D G
 | [],h=>h
 | Y::X,h=>(AStV.moreL X h).more Y
theorem cells4 {W:World} {g:Nat} {a b c d:Value} {T:TypeId} (h:W.heap[g]?=some (.cells #[a,b,c,d] T (0,0))):W.cell? ⟨g,0,none⟩=some a∧W.cell? ⟨g,1,none⟩=some b∧W.cell? ⟨g,2,none⟩=some c∧W.cell? ⟨g,3,none⟩=some d:=⟨cell_of h rfl,cell_of h rfl,cell_of h rfl,cell_of h rfl⟩
def OfRel (v:StD) (g sb:Nat) (C:Array Value) (rv pv:Value) (F0:List Nat) (w0:World) (R:List Asrt) (i:Value) (wr:World):Prop:=
 ∃ k:Nat,k≤(recsSt v).length∧i=.int .i64 k∧(applyAll ((recsSt v).take k) zeroSt).2=0∧In F0 w0 wr (StA sb (applyAll ((recsSt v).take k) zeroSt).1::RowA 45 14 rv (recsSt v).length (recsV pv (recsSt v))::BkR pv v.bks::Cells g C 36::R)
def OfPost (v:StD) (F0:List Nat) (w0:World) (R:List Asrt) (e:Ending) (w':World):Prop:=
 match (ofSt v).1 with
 | some t=>∃ sb,e=.returned (.tuple #[pR sb,.int .i64 0])∧In F0 w0 w' (StA sb v::R)
 | none=>e=.returned (.tuple #[.pointer none,.int .i64 (ofSt v).2])∧In F0 w0 w' R
theorem o_stof {v:StD} {A D F:Option Addr} {a d f:Nat} (hv:AStV F0 w0 R v A D F) (hn:A=none→a=0) (lb:v.bks.length≤1000) (ld:v.drs.length≤1000) (lf:v.fls.length≤1000) (hw:∀ r∈recsSt v,WfR r) (h:In F0 w0 w R):Calls Tryz.prog 67 #[agSt v A a D d F f] w (OfPost v F0 w0 R):=by
 obtain⟨w1,hw1⟩:∃ w1,w1=w.alloc (.cells #[.int .i64 v.gen,.slice A v.bks.length a,.slice D v.drs.length d,.slice F v.fls.length f] 36):=⟨_,rfl⟩
 have h1:=h.cells #[.int .i64 v.gen,.slice A v.bks.length a,.slice D v.drs.length d,.slice F v.fls.length f] 36
 rw [← hw1] at h1
 have K1:=Lib.hid (o_stnew h1)
 have HW:=Lib.hid hw1
 have HV:=Lib.hid hv
 have hmf:∀ (fn:Fn) (first cap:Array Value) (w:World),(Instr.makeFunc fn first cap).run Tryz.prog w=.ok (.func fn first cap) w:=fun _ _ _ _=>rfl
 have hrl:(recsSt v).length≤3000:=by simp [recsSt];omega
 clear h h1 hw1 hv
 go_enter Tryz.func67,Tryz.ntmps67
 go_wp2_with fail
 rw [← HW.out]
 clear HW
 generalize w.heap.size=g at *
 refine K1.out.mono ?_
 rintro e w2 ⟨sb,rfl,g2⟩
 have d0:w2.cell? ⟨g,0,none⟩=some (.int .i64 v.gen):=cell_of (g2.block 1 rfl) rfl
 have d1:w2.cell? ⟨g,1,none⟩=some (.slice A v.bks.length a):=cell_of (g2.block 1 rfl) rfl
 have d2:w2.cell? ⟨g,2,none⟩=some (.slice D v.drs.length d):=cell_of (g2.block 1 rfl) rfl
 have d3:w2.cell? ⟨g,3,none⟩=some (.slice F v.fls.length f):=cell_of (g2.block 1 rfl) rfl
 have K2:=Lib.hid (o_strecs (a:=a) (d:=d) (f:=f) (HV.out.moreL [StA sb zeroSt,Cells g #[.int .i64 v.gen,.slice A v.bks.length a,.slice D v.drs.length d,.slice F v.fls.length f] 36]) hn lb ld lf g2)
 clear g2 K1
 go_wp2_with fail
 refine K2.out.mono ?_
 rintro e w3 ⟨rv,pv,rfl,g3⟩
 obtain⟨Fr,rr⟩:=g3.get 0 rfl
 obtain⟨ra,rc,rfl,-,-,-⟩:=RowA.shape rr
 obtain⟨Fp,rp⟩:=g3.get 1 rfl
 obtain⟨pa,pc,rfl,-,-,-⟩:=RowA.shape rp
 have hnp:pa=none→pc=0:=fun e=>RowA.noc rp e
 have HR:Hid (OfRel v g sb #[.int .i64 v.gen,.slice A v.bks.length a,.slice D v.drs.length d,.slice F v.fls.length f] (.slice ra (recsSt v).length rc) (.slice pa v.bks.length pc) F0 w0 R (.int .i64 0) w3):=Lib.hid ⟨0,Nat.zero_le _,rfl,rfl,g3.sel2 (R1:=[_,_,_]) [2,0,1] (by decide) rfl⟩
 have HN:=Lib.hid hnp
 clear g3 K2 rr rp hn hnp d0 d1 d2 d3
 go_wp2_with fail
 go_loopw [15] (OfRel v g sb #[.int .i64 v.gen,.slice A v.bks.length a,.slice D v.drs.length d,.slice F v.fls.length f] (.slice ra (recsSt v).length rc) (.slice pa v.bks.length pc) F0 w0 R) (fun k _=>(recsSt v).length - (intOf k).toNat)
 case atStart=>exact HR.out
 case round=>
  obtain⟨k,hk,rfl,hok,hio⟩:=hrel
  clear HR
  by_cases hlt:k < (recsSt v).length
  ·obtain⟨x,hx⟩:∃ x,(recsSt v)[k]?=some x:=⟨(recsSt v)[k],List.getElem?_eq_getElem hlt⟩
   obtain⟨Fr,rr⟩:=hio.get 1 rfl
   obtain⟨gr,o,rfl,sc⟩:=rr.all.plain (by omega) (by decide)
   obtain⟨Ax,cx,hpx,hnx,hbx⟩:∃ Ax cx,(if k=0 then (Value.slice pa v.bks.length pc) else .slice none 0 0)=.slice Ax x.bks.length cx∧(Ax=none→cx=0)∧BksAt F0 w0 (RowA 45 14 (.slice (some ⟨gr,o,none⟩) (recsSt v).length rc) (recsSt v).length (recsV (.slice pa v.bks.length pc) (recsSt v))::BkR (.slice pa v.bks.length pc) v.bks::Cells g #[.int .i64 v.gen,.slice A v.bks.length a,.slice D v.drs.length d,.slice F v.fls.length f] 36::R) Ax x.bks:=by
    rcases recs_el hx with ⟨rfl,e⟩|⟨h0,e⟩
    ·refine⟨pa,pc,by rw [if_pos rfl,e],HN.out,?_⟩
     rw [e]
     exact fun w' h'=>by obtain⟨F',r'⟩:=h'.get 1 rfl;exact r'.all
    ·refine⟨none,0,by rw [if_neg h0,e];rfl,fun _=>rfl,?_⟩
     rw [e]
     exact fun w' h'=>Src.nil _ _ _
   have c0:wr.cell? ⟨gr,o+k * 14,none⟩=some (.int .i64 x.kind):=by
    have:=sc (k * 14+0) _ (by rw [recsV_at hx 0 (by decide),hpx];rfl)
    rwa [← Nat.add_assoc] at this
   have c1:wr.cell? ⟨gr,o+k * 14+1,none⟩=some (.int .u32 x.fl.t.src):=by
    have:=sc (k * 14+1) _ (by rw [recsV_at hx 1 (by decide),hpx];rfl)
    rwa [← Nat.add_assoc] at this
   have c2:wr.cell? ⟨gr,o+k * 14+2,none⟩=some (.int .u32 x.fl.t.dst):=by
    have:=sc (k * 14+2) _ (by rw [recsV_at hx 2 (by decide),hpx];rfl)
    rwa [← Nat.add_assoc] at this
   have c3:wr.cell? ⟨gr,o+k * 14+3,none⟩=some (.int .i64 x.fl.t.proto):=by
    have:=sc (k * 14+3) _ (by rw [recsV_at hx 3 (by decide),hpx];rfl)
    rwa [← Nat.add_assoc] at this
   have c4:wr.cell? ⟨gr,o+k * 14+4,none⟩=some (.int .i64 x.fl.t.sport):=by
    have:=sc (k * 14+4) _ (by rw [recsV_at hx 4 (by decide),hpx];rfl)
    rwa [← Nat.add_assoc] at this
   have c5:wr.cell? ⟨gr,o+k * 14+5,none⟩=some (.int .i64 x.fl.t.dport):=by
    have:=sc (k * 14+5) _ (by rw [recsV_at hx 5 (by decide),hpx];rfl)
    rwa [← Nat.add_assoc] at this
   have c6:wr.cell? ⟨gr,o+k * 14+6,none⟩=some (.int .i64 x.fl.bk):=by
    have:=sc (k * 14+6) _ (by rw [recsV_at hx 6 (by decide),hpx];rfl)
    rwa [← Nat.add_assoc] at this
   have c7:wr.cell? ⟨gr,o+k * 14+7,none⟩=some (.int .i64 x.fl.gen):=by
    have:=sc (k * 14+7) _ (by rw [recsV_at hx 7 (by decide),hpx];rfl)
    rwa [← Nat.add_assoc] at this
   have c8:wr.cell? ⟨gr,o+k * 14+8,none⟩=some (.int .i64 x.fl.seen):=by
    have:=sc (k * 14+8) _ (by rw [recsV_at hx 8 (by decide),hpx];rfl)
    rwa [← Nat.add_assoc] at this
   have c9:wr.cell? ⟨gr,o+k * 14+9,none⟩=some (.int .i64 x.gen):=by
    have:=sc (k * 14+9) _ (by rw [recsV_at hx 9 (by decide),hpx];rfl)
    rwa [← Nat.add_assoc] at this
   have c10:wr.cell? ⟨gr,o+k * 14+10,none⟩=some (.slice Ax x.bks.length cx):=by
    have:=sc (k * 14+10) _ (by rw [recsV_at hx 10 (by decide),hpx];rfl)
    rwa [← Nat.add_assoc] at this
   have c11:wr.cell? ⟨gr,o+k * 14+11,none⟩=some (.int .i64 x.bk):=by
    have:=sc (k * 14+11) _ (by rw [recsV_at hx 11 (by decide),hpx];rfl)
    rwa [← Nat.add_assoc] at this
   have c12:wr.cell? ⟨gr,o+k * 14+12,none⟩=some (.int .i64 x.till):=by
    have:=sc (k * 14+12) _ (by rw [recsV_at hx 12 (by decide),hpx];rfl)
    rwa [← Nat.add_assoc] at this
   have c13:wr.cell? ⟨gr,o+k * 14+13,none⟩=some (.int .i64 x.count):=by
    have:=sc (k * 14+13) _ (by rw [recsV_at hx 13 (by decide),hpx];rfl)
    rwa [← Nat.add_assoc] at this
   have hlt':(k:Int) < ((recsSt v).length:Int):=Int.ofNat_lt.2 hlt
   have hw2:wrap64 ((k:Int)+1)=(k:Int)+1:=by unfold wrap64;omega
   have hbl:x.bks.length≤1000000:=by
    rcases recs_el hx with ⟨_,e⟩|⟨_,e⟩ <;> rw [e]
    ·omega
    ·exact Nat.zero_le _
   have KA:=Lib.hid (o_apply (r:=x) hbx hnx hbl (hw x (List.mem_of_getElem? hx)) (hio.cells #[.int .i64 x.kind,.int .u32 x.fl.t.src,.int .u32 x.fl.t.dst,.int .i64 x.fl.t.proto,.int .i64 x.fl.t.sport,.int .i64 x.fl.t.dport,.int .i64 x.fl.bk,.int .i64 x.fl.gen,.int .i64 x.fl.seen,.int .i64 x.gen,.slice Ax x.bks.length cx,.int .i64 x.bk,.int .i64 x.till,.int .i64 x.count] 45).drop)
   have HX:=Lib.hid hx
   have HOK:=Lib.hid hok
   have HM:=Lib.hid (meas_lt hlt')
   clear hio hx hk rr sc hpx hnx hbx hbl hok
   go_wp2_with fail
   refine KA.out.mono ?_
   rintro e w4 ⟨rfl,g4⟩
   clear KA
   by_cases he:(applySt (applyAll ((recsSt v).take k) zeroSt).1 x).2=0
   ·rw [he]
    have HR:Hid (OfRel v g sb #[.int .i64 v.gen,.slice A v.bks.length a,.slice D v.drs.length d,.slice F v.fls.length f] (.slice (some ⟨gr,o,none⟩) (recsSt v).length rc) (.slice pa v.bks.length pc) F0 w0 R (.int .i64 ((k:Int)+1)) w4):=Lib.hid ⟨k+1,(List.getElem?_eq_some_iff.1 HX.out).1,by rw [Int.natCast_add];rfl,by rw [all_snoc HX.out HOK.out he],by rw [all_snoc HX.out HOK.out he];exact g4⟩
    clear g4 he
    go_wp2_with fail
    go_roundw
    case rel=>(try rw [hw2]);exact HR.out
    case measure=>(try rw [hw2]);exact HM.out
   ·have q:((applySt (applyAll ((recsSt v).take k) zeroSt).1 x).2 != 0)=true:=by rw [bne_iff_ne];exact he
    have G:Hid (OfPost v F0 w0 R (.returned (.tuple #[.pointer none,.int .i64 (applySt (applyAll ((recsSt v).take k) zeroSt).1 x).2])) w4):=Lib.hid (by
     unfold OfPost
     rw [of_err (by rw [all_err HX.out HOK.out he];exact he),all_err HX.out HOK.out he]
     exact⟨rfl,g4.drop.drop.drop.drop⟩)
    clear g4 he HM HX HOK
    generalize (applySt (applyAll ((recsSt v).take k) zeroSt).1 x).2=er at *
    go_wp2_with fail
    go_ret2
    exact G.out
  ·have hkl:k=(recsSt v).length:=by omega
   subst hkl
   rw [List.take_length] at hok hio
   have ht:=hio.stOpen.1
   obtain⟨t1,t2,t3⟩:=ht.lens
   have HOF:Hid (∀ w' e,(if (applyAll (recsSt v) zeroSt).1=v then (e=.returned (.tuple #[pR sb,.int .i64 0])∧In F0 w0 w' (StA sb v::R)) else (e=.returned (.tuple #[.pointer none,.int .i64 1])∧In F0 w0 w' R))→OfPost v F0 w0 R e w'):=Lib.hid (fun w' e hh=>by
    unfold OfPost
    by_cases hE:(applyAll (recsSt v) zeroSt).1=v
    ·rw [if_pos hE] at hh
     rw [of_ok hok hE];exact⟨sb,hh.1,hh.2⟩
    ·rw [if_neg hE] at hh
     rw [of_ne hok hE];exact hh)
   generalize (applyAll (recsSt v) zeroSt).1=t at *
   have hge:((recsSt v).length:Int)≤((recsSt v).length:Int):=Int.le_refl _
   have hz0:(wr.drewN 1).cell? ⟨g,0,none⟩=some (.int .i64 v.gen)∧(wr.drewN 1).cell? ⟨g,1,none⟩=some (.slice A v.bks.length a)∧(wr.drewN 1).cell? ⟨g,2,none⟩=some (.slice D v.drs.length d)∧(wr.drewN 1).cell? ⟨g,3,none⟩=some (.slice F v.fls.length f):=⟨cell_of ((hio.drewN 1).block 3 rfl) rfl,cell_of ((hio.drewN 1).block 3 rfl) rfl,cell_of ((hio.drewN 1).block 3 rfl) rfl,cell_of ((hio.drewN 1).block 3 rfl) rfl⟩
   have KV:Hid (Calls Tryz.prog 16 #[pR sb] (wr.drewN 1) fun e w'=>∃ A1 a1 D1 d1 F1 f1,e=.returned (agSt t A1 a1 D1 d1 F1 f1)∧In F0 w0 w' (BkR (.slice A1 t.bks.length a1) t.bks::DrR (.slice D1 t.drs.length d1) t.drs::FlR (.slice F1 t.fls.length f1) t.fls::StA sb t::RowA 45 14 (.slice ra (recsSt v).length rc) (recsSt v).length (recsV (.slice pa v.bks.length pc) (recsSt v))::BkR (.slice pa v.bks.length pc) v.bks::Cells g #[.int .i64 v.gen,.slice A v.bks.length a,.slice D v.drs.length d,.slice F v.fls.length f] 36::R)):=Lib.hid (o_stview (hio.drewN 1))
   have HL:Hid (t.bks.length≤1000000∧t.drs.length≤1000000∧t.fls.length≤1000000):=Lib.hid ⟨by omega,by omega,by omega⟩
   cases hd:decide (t=v) with
   | true=>
    have HD:=Lib.hid hd
    clear hio hlt hk hok ht t1 t2 t3 hd
    go_wp2_with fail
    go_region_held3 (fun w'=>w'.cell? ⟨g,0,none⟩=some (.int .i64 v.gen)∧w'.cell? ⟨g,1,none⟩=some (.slice A v.bks.length a)∧w'.cell? ⟨g,2,none⟩=some (.slice D v.drs.length d)∧w'.cell? ⟨g,3,none⟩=some (.slice F v.fls.length f)) (first | exact hz2 | exact hz1 | exact hz0) (first
     | (go_at_call 16;refine KV.out.mono ?_;rintro e w5 ⟨A1,a1,D1,d1,F1,f1,rfl,g5⟩;have hz1:=cells4 (g5.block 6 rfl);have KS:=Lib.hid (o_stsame (a1:=a1) (e1:=d1) (h1:=f1) (a2:=a) (e2:=d) (h2:=f) (stV_of 0 1 2 rfl rfl rfl) (HV.out.moreL [_,_,_,_,_,_,_]) HL.out.1 HL.out.2.1 HL.out.2.2 g5);clear g5)
     | (go_at_call 147;refine KS.out.mono ?_;rintro e w6 ⟨rfl,g6⟩;rw [HD.out];have hz2:=cells4 (g6.block 6 rfl);have G6:=Lib.hid (HOF.out w6 (.returned (.tuple #[pR sb,.int .i64 0])) (by have e:=of_decide_eq_true HD.out;rw [if_pos e,← e];exact⟨rfl,g6.sel2 (R1:=[_,_,_,_,_,_,_]) [3] (by decide) rfl⟩));clear g6))
    go_wp2_with fail
    go_ret2
    exact G6.out
   | false=>
    have HD:=Lib.hid hd
    clear hio hlt hk hok ht t1 t2 t3 hd
    go_wp2_with fail
    go_region_held3 (fun w'=>w'.cell? ⟨g,0,none⟩=some (.int .i64 v.gen)∧w'.cell? ⟨g,1,none⟩=some (.slice A v.bks.length a)∧w'.cell? ⟨g,2,none⟩=some (.slice D v.drs.length d)∧w'.cell? ⟨g,3,none⟩=some (.slice F v.fls.length f)) (first | exact hz2 | exact hz1 | exact hz0) (first
     | (go_at_call 16;refine KV.out.mono ?_;rintro e w5 ⟨A1,a1,D1,d1,F1,f1,rfl,g5⟩;have hz1:=cells4 (g5.block 6 rfl);have KS:=Lib.hid (o_stsame (a1:=a1) (e1:=d1) (h1:=f1) (a2:=a) (e2:=d) (h2:=f) (stV_of 0 1 2 rfl rfl rfl) (HV.out.moreL [_,_,_,_,_,_,_]) HL.out.1 HL.out.2.1 HL.out.2.2 g5);clear g5)
     | (go_at_call 147;refine KS.out.mono ?_;rintro e w6 ⟨rfl,g6⟩;rw [HD.out];have hz2:=cells4 (g6.block 6 rfl);have G6:=Lib.hid (HOF.out w6 (.returned (.tuple #[.pointer none,.int .i64 1])) (by rw [if_neg (of_decide_eq_false HD.out)];exact⟨rfl,g6.drop.drop.drop.drop.drop.drop.drop⟩));clear g6))
    go_wp2_with fail
    go_ret2
    exact G6.out
end
structure ManD where
 ver:Nat
 next:Nat
 segs:List Nat
deriving DecidableEq,Inhabited
structure LogD where
 size:Nat
 m:ManD
 loose:Bool
deriving DecidableEq,Inhabited
def nmHead:ByteArray:=⟨#[109]⟩
def nmFresh:ByteArray:=⟨#[109,46,110,101,119]⟩
def dig (n k:Nat):UInt8:=UInt8.ofNat (48+n / 10 ^ k % 10)
def segName (s:Nat):ByteArray:=if s < 1∨1000000≤s then ByteArray.empty else ⟨#[115,dig s 5,dig s 4,dig s 3,dig s 2,dig s 1,dig s 0]⟩
def upB (b:Nat):Nat→List Nat→Bool
 | _,[]=>true
 | was,s::r=>decide (was < s∧s < b) && upB b s r
def mayM (m:ManD):Bool:=decide (1≤m.ver∧m.ver≤3∧1≤m.segs.length∧m.segs.length≤64∧1≤m.next∧m.next≤1000000) && upB m.next 0 m.segs
def manBody (m:ManD):List UInt8:=be m.next 4++be m.segs.length 2++(m.segs.map (fun s=>be s 4)).flatten
def manFr (m:ManD):FrD:=⟨100,m.ver,manBody m⟩
def manEnc (m:ManD):List UInt8×Int:=if mayM m then (frBytes (manFr m),0) else ([],1)
def thenD {σ:Type} (r:σ×Int) (f:σ→σ×Int):σ×Int:=if r.2=0 then f r.1 else r
def clearD (n:ByteArray) (d:DiskD):DiskD×Int:=if (nmAt d.now n).isSome then dRemove d n else (d,0)
def beginD (s:Nat) (d:DiskD):DiskD×Int:=thenD (clearD (segName s) d) (fun d=>dAppend d (segName s) [])
def freshD (m:ManD) (d:DiskD):DiskD×Int:=
 thenD (thenD (thenD (clearD nmFresh d) (fun d=>dAppend d nmFresh (frBytes (manFr m)))) (fun d=>dSync d nmFresh)) (fun d=>dRename d nmFresh nmHead)
def commitD (m:ManD) (d:DiskD):DiskD×Bool×Int:=
 if mayM m=false then (d,false,1)
 else if (freshD m d).2≠0 then ((freshD m d).1,false,(freshD m d).2)
 else ((dSyncDir (freshD m d).1).1,true,(dSyncDir (freshD m d).1).2)
def sized (n:Int):Nat:=(max 16 (min n 1048576)).toNat
def firstM (v:Nat):ManD:=⟨v,2,[1]⟩
def createD (v size:Int) (d:DiskD):DiskD×Option LogD×Int:=
 if v < 1∨3 < v then (d,none,10)
 else if (nmAt d.now nmHead).isSome then (d,none,12)
 else
  let r:=thenD (thenD (beginD 1 d) (fun d=>dSync d (segName 1))) (fun d=>((commitD (firstM v.toNat) d).1,(commitD (firstM v.toNat) d).2.2))
  if r.2≠0 then (r.1,none,r.2) else (r.1,some ⟨sized size,firstM v.toNat,false⟩,0)
abbrev DL:=DiskD×LogD
def lastS (l:LogD):ByteArray:=segName (l.m.segs.getLastD 0)
def bytesD (d:DiskD) (n:ByteArray):Nat:=((dRead d n).getD []).length
def fitsL (l:LogD) (have' more:Nat):Bool:=decide (have'=0∨have'+more≤l.size)
def onDisk (f:DiskD→DiskD×Int) (s:DL):DL×Int:=(((f s.1).1,s.2),(f s.1).2)
def settleL (s:DL):DL×Int:=
 if s.2.loose then (((dSyncDir s.1).1,{ s.2 with loose:=decide ((dSyncDir s.1).2≠0) }),(dSyncDir s.1).2) else (s,0)
def adoptL (m:ManD) (s:DL):DL×Bool×Int:=
 (((commitD m s.1).1,if (commitD m s.1).2.1 then { s.2 with m:=m,loose:=decide ((commitD m s.1).2.2≠0) } else s.2),(commitD m s.1).2.1,(commitD m s.1).2.2)
def turnM (l:LogD):ManD:=⟨l.m.ver,l.m.next+1,l.m.segs++[l.m.next]⟩
def turnL (s:DL):DL×Int:=
 if 64≤s.2.m.segs.length then (s,4) else
 thenD (thenD (thenD (onDisk (fun d=>dSync d (lastS s.2)) s) (onDisk (beginD s.2.m.next))) (onDisk (fun d=>dSync d (segName s.2.m.next)))) (fun t=>((adoptL (turnM s.2) t).1,(adoptL (turnM s.2) t).2.2))
def appendL (kind:Int) (body:List UInt8) (s:DL):DL×Int:=
 if putErr kind s.2.m.ver body.length≠0 then (s,putErr kind s.2.m.ver body.length) else
 thenD (thenD (settleL s) (fun t=>if fitsL t.2 (bytesD t.1 (lastS t.2)) (frBytes ⟨kind.toNat,s.2.m.ver,body⟩).length then (t,0) else turnL t))
  (fun t=>onDisk (fun d=>dAppend d (lastS t.2) (frBytes ⟨kind.toNat,s.2.m.ver,body⟩)) t)
def syncL (s:DL):DL×Int:=thenD (settleL s) (fun t=>onDisk (fun d=>dSync d (lastS t.2)) t)
def nextD (nx:Nat) (b:List UInt8) (s:DiskD×List Nat×Nat):(DiskD×List Nat×Nat)×Int:=
 if 64≤s.2.1.length then (s,4)
 else if (clearD (segName (nx+s.2.1.length)) s.1).2≠0 then (((clearD (segName (nx+s.2.1.length)) s.1).1,s.2),(clearD (segName (nx+s.2.1.length)) s.1).2)
 else (((dAppend (clearD (segName (nx+s.2.1.length)) s.1).1 (segName (nx+s.2.1.length)) b).1,s.2.1++[nx+s.2.1.length],b.length),(dAppend (clearD (segName (nx+s.2.1.length)) s.1).1 (segName (nx+s.2.1.length)) b).2)
def newest (segs:List Nat):ByteArray:=segName (segs.getLastD 0)
def rowD (l:LogD) (b:List UInt8) (s:DiskD×List Nat×Nat):(DiskD×List Nat×Nat)×Int:=
 if s.2.1=[] then nextD l.m.next b s
 else if fitsL l s.2.2 b.length then (((dAppend s.1 (newest s.2.1) b).1,s.2.1,s.2.2+b.length),(dAppend s.1 (newest s.2.1) b).2)
 else thenD (((dSync s.1 (newest s.2.1)).1,s.2),(dSync s.1 (newest s.2.1)).2) (nextD l.m.next b)
def rowsD (l:LogD):List (List UInt8)→(DiskD×List Nat×Nat)→(DiskD×List Nat×Nat)×Int
 | [],s=>(s,0)
 | b::r,s=>thenD (rowD l b s) (rowsD l r)
def layD (l:LogD) (rows:List (List UInt8)) (d:DiskD):(DiskD×List Nat×Nat)×Int:=
 thenD (thenD (rowsD l rows (d,[],0)) (fun s=>if s.2.1=[] then nextD l.m.next [] s else (s,0)))
  (fun s=>(((dSync s.1 (newest s.2.1)).1,s.2),(dSync s.1 (newest s.2.1)).2))
def dropD:List Nat→DiskD→DiskD
 | [],d=>d
 | s::r,d=>dropD r (clearD (segName s) d).1
def removeD:List Nat→DiskD→DiskD
 | [],d=>d
 | s::r,d=>removeD r (dRemove d (segName s)).1
def swapIn (ver:Nat) (l:LogD) (segs:List Nat):ManD:=⟨ver,l.m.next+segs.length,segs⟩
def swapL (ver:Nat) (rows:List (List UInt8)) (s:DL):DL×Int:=
 if (settleL s).2≠0 then settleL s else
 let t:=(settleL s).1
 let r:=layD t.2 rows t.1
 if r.2≠0 then ((dropD r.1.2.1 r.1.1,t.2),r.2) else
 let a:=adoptL (swapIn ver t.2 r.1.2.1) (r.1.1,t.2)
 if a.2.2=0 then ((removeD t.2.m.segs a.1.1,a.1.2),0)
 else if a.2.1 then (a.1,a.2.2) else ((dropD r.1.2.1 a.1.1,a.1.2),a.2.2)
def tellAll {σ:Type} (each:σ→FrD→σ×Int) (ver:Nat):List FrD→σ→σ×Int
 | [],s=>(s,0)
 | f::r,s=>if f.ver≠ver then (s,3) else if (each s f).2≠0 then each s f else tellAll each ver r (each s f).1
def scanSeg {σ:Type} (each:σ→FrD→σ×Int) (d:DiskD) (m:ManD) (i:Nat) (s:σ):σ×Nat×Int:=
 match dRead d (segName (m.segs.getD i 0)) with
 | none=>(s,0,6)
 | some b=>
  if (frScan b).2.2≠0∧i+1 < m.segs.length then (s,0,3)
  else if (tellAll each m.ver (frScan b).1 s).2≠0 then ((tellAll each m.ver (frScan b).1 s).1,0,(tellAll each m.ver (frScan b).1 s).2)
  else ((tellAll each m.ver (frScan b).1 s).1,(frScan b).2.1,0)
def scanAll {σ:Type} (each:σ→FrD→σ×Int) (d:DiskD) (m:ManD):Nat→Nat→Nat→σ→σ×Nat×Int
 | 0,_,n,s=>(s,n,0)
 | k+1,i,_,s=>if (scanSeg each d m i s).2.2≠0 then scanSeg each d m i s else scanAll each d m k (i+1) (scanSeg each d m i s).2.1 (scanSeg each d m i s).1
def manDec (b:List UInt8):ManD×Int:=
 if (frTake b).2.2≠0 then (default,(frTake b).2.2)
 else if (frTake b).2.1 < b.length∨(frTake b).1.kind≠100 then (default,3)
 else if (frTake b).1.ver < 1∨3 < (frTake b).1.ver then (default,10)
 else
  let x:=(frTake b).1.body
  let k:=num ((x.drop 4).take 2)
  let m:ManD:=⟨(frTake b).1.ver,num (x.take 4),(List.range k).map (fun j=>num ((x.drop (6+4 * j)).take 4))⟩
  if x.length=6+4 * k∧mayM m then (m,0) else (default,3)
def openL {σ:Type} (each:σ→FrD→σ×Int) (size:Int) (d:DiskD) (s:σ):σ×DiskD×Option LogD×Int:=
 match dRead d nmHead with
 | none=>(s,d,none,6)
 | some b=>
  if (manDec b).2≠0 then (s,d,none,(manDec b).2) else
  let m:=(manDec b).1
  let l:LogD:=⟨sized size,m,false⟩
  let r:=scanAll each d m m.segs.length 0 0 s
  if r.2.2≠0 then (r.1,d,none,r.2.2) else
  let e:=thenD (thenD (if r.2.1=bytesD d (lastS l) then (d,0) else dCut d (lastS l) r.2.1) (fun d=>dSync d (lastS l))) dSyncDir
  if e.2≠0 then (r.1,e.1,none,e.2) else (r.1,e.1,some l,0)
def sizeL (s:DL):Nat:=(s.2.m.segs.map (fun x=>bytesD s.1 (segName x))).sum
def foldD {σ:Type} (g:List (σ→σ×Int)) (s:σ):σ×Int:=g.foldl thenD (s,0)
theorem foldD_err {σ:Type} (g:List (σ→σ×Int)) {r:σ×Int} (h:r.2≠0):g.foldl thenD r=r:=by
 induction g with
 | nil=>rfl
 | cons f g ih=>
  rw [List.foldl_cons,show thenD r f=r from by unfold thenD;rw [if_neg h]]
  exact ih
theorem thenD_ok {σ:Type} {r:σ×Int} {f:σ→σ×Int} (h:r.2=0):thenD r f=f r.1:=if_pos h
theorem thenD_err {σ:Type} {r:σ×Int} {f:σ→σ×Int} (h:r.2≠0):thenD r f=r:=if_neg h
def fnV (f:FuncId×Array Value):Value:=.func (.func f.1) #[] f.2
section
variable {F0:List Nat} {w0 w:World}
def AllRel {σ:Type} (R:σ→List Asrt) (g:List (σ→σ×Int)) (s0:σ) (n:Nat) (F0:List Nat) (w0:World) (k:Value) (wr:World):Prop:=
 ∃ i:Nat,k=.int .i64 i∧i≤n∧(foldD (g.take i) s0).2=0∧In F0 w0 wr (R (foldD (g.take i) s0).1)
theorem all_call {σ:Type} (R:σ→List Asrt) (g:List (σ→σ×Int)) (fs:List (FuncId×Array Value)) (hlen:g.length=fs.length) (hsm:fs.length≤1000) (s0:σ) (b c:Nat)
  (hsrc:∀ s w',In F0 w0 w' (R s)→∀ (j:Nat) v,(fs.map fnV)[j]?=some v→w'.cell? ⟨b,j,none⟩=some v)
  (hent:∀ f∈fs,∀ args w',(callFunc f.1 args).run Tryz.prog w'=.ok (.enter f.1 args) w')
  (hstep:∀ (i:Nat) f gi,fs[i]?=some f→g[i]?=some gi→∀ w',(foldD (g.take i) s0).2=0→In F0 w0 w' (R (foldD (g.take i) s0).1) →
   Calls Tryz.prog f.1 f.2 w' fun e w''=>e=.returned (.int .i64 (gi (foldD (g.take i) s0).1).2)∧In F0 w0 w'' (R (gi (foldD (g.take i) s0).1).1))
  (h:In F0 w0 w (R s0)) :
  Calls Tryz.prog 84 #[.slice (some ⟨b,0,none⟩) fs.length c] w fun e w'=>e=.returned (.int .i64 (foldD g s0).2)∧In F0 w0 w' (R (foldD g s0).1):=by
 have HS:Hid (AllRel R g s0 fs.length F0 w0 (.int .i64 0) w):=Lib.hid ⟨0,rfl,Nat.zero_le _,rfl,h⟩
 have HSRC:=Lib.hid hsrc
 have HENT:=Lib.hid hent
 have HSTEP:=Lib.hid hstep
 have HLEN:=Lib.hid hlen
 clear h hsrc hent hstep hlen
 go_enter Tryz.func84,Tryz.ntmps84
 go_wp2_with fail
 go_loopw [8] (AllRel R g s0 fs.length F0 w0) (fun k _=>fs.length - (intOf k).toNat)
 case atStart=>exact HS.out
 case round=>
  obtain⟨i,rfl,hi,h0,ho⟩:=hrel
  clear HS
  by_cases hlt:i < fs.length
  ·obtain⟨f,hf⟩:∃ f,fs[i]?=some f:=⟨fs[i],List.getElem?_eq_getElem hlt⟩
   obtain⟨gi,hg⟩:∃ gi,g[i]?=some gi:=⟨g[i]'(by rw [HLEN.out];exact hlt),List.getElem?_eq_getElem _⟩
   have c0:=HSRC.out _ wr ho i (fnV f) (by simp [hf])
   have eg:=HENT.out f (List.mem_of_getElem? hf)
   have K:=Lib.hid (HSTEP.out i f gi hf hg wr h0 ho)
   have hst:foldD (g.take (i+1)) s0=gi (foldD (g.take i) s0).1:=by
    unfold foldD at h0 ⊢
    rw [List.take_add_one,hg]
    simp only [Option.toList_some,List.foldl_append,List.foldl_cons,List.foldl_nil]
    exact thenD_ok h0
   have hend:(gi (foldD (g.take i) s0).1).2≠0→foldD g s0=gi (foldD (g.take i) s0).1:=fun hne=>by
    have e:g=g.take (i+1)++g.drop (i+1):=(List.take_append_drop _ _).symm
    have e2:foldD g s0=(g.drop (i+1)).foldl thenD (foldD (g.take (i+1)) s0):=by
     unfold foldD
     conv=>lhs;rw [e]
     rw [List.foldl_append]
    rw [e2,hst]
    exact foldD_err _ hne
   have HST:=Lib.hid hst
   have HEND:=Lib.hid hend
   have hlt':(i:Int) < (fs.length:Int):=by omega
   clear ho hf hg hst hend h0 hlt
   unfold fnV at c0
   obtain⟨fid,caps⟩:=f
   simp only at c0 eg K
   generalize gi (foldD (g.take i) s0).1=r at *
   by_cases hr:r.2=0
   ·have HRZ:=Lib.hid hr
    clear hr
    go_wp2_with fail
    refine K.out.mono ?_
    rintro e w1 ⟨rfl,g1⟩
    rw [HRZ.out]
    have HR:Hid (AllRel R g s0 fs.length F0 w0 (.int .i64 (i+1)) w1):=Lib.hid ⟨i+1,by go_num,by omega,by rw [HST.out];exact HRZ.out,by rw [HST.out];exact g1⟩
    clear g1 K HST HEND HRZ
    go_wp2_with fail
    go_roundw
    case rel=>exact HR.out
    case measure=>simp [intOf];omega
   ·have q:(r.2 != 0)=true:=by rw [bne_iff_ne];exact hr
    have HE:=Lib.hid (HEND.out hr)
    clear hr HST HEND
    go_wp2_with fail
    refine K.out.mono ?_
    rintro e w1 ⟨rfl,g1⟩
    have HF:Hid (Ending.returned (.int .i64 r.2)=Ending.returned (.int .i64 (foldD g s0).2)∧In F0 w0 w1 (R (foldD g s0).1)):=Lib.hid ⟨by rw [HE.out],by rw [HE.out];exact g1⟩
    clear g1 K HE
    go_wp2_with fail
    go_ret
    exact HF.out
  ·have hge:(fs.length:Int)≤(i:Int):=by omega
   have hil:g.take i=g:=List.take_of_length_le (by rw [HLEN.out];omega)
   rw [hil] at h0 ho
   have HF:Hid (Ending.returned (.int .i64 0)=Ending.returned (.int .i64 (foldD g s0).2)∧In F0 w0 wr (R (foldD g s0).1)):=Lib.hid ⟨by rw [h0],ho⟩
   clear h0 ho hil hlt
   go_wp2_with fail
   go_ret
   exact HF.out
theorem fold_inv {σ:Type} {g:List (σ→σ×Int)} {s0:σ} {I:Nat→σ→Prop} (h0:I 0 s0) (hI:∀ k f,g[k]?=some f→∀ s,I k s→I (k+1) (f s).1) :
  ∀ k,k≤g.length→(foldD (g.take k) s0).2=0→I k (foldD (g.take k) s0).1:=by
 intro k
 induction k with
 | zero=>intro _ _;exact h0
 | succ k ih=>
  intro hk he
  obtain⟨f,hf⟩:∃ f,g[k]?=some f:=⟨g[k],List.getElem?_eq_getElem hk⟩
  have e:foldD (g.take (k+1)) s0=thenD (foldD (g.take k) s0) f:=by
   unfold foldD;rw [List.take_add_one,hf];simp
  rw [e] at he ⊢
  by_cases hz:(foldD (g.take k) s0).2=0
  ·rw [thenD_ok hz];exact hI k f hf _ (ih (by omega) hz)
  ·rw [thenD_err hz] at he;exact absurd he hz
theorem all_fn {σ:Type} (I:Nat→σ→Prop) (X:σ→List Asrt) (fb:Nat) (T:TypeId) (gs:List (σ→σ×Int)) (fs:List (FuncId×Array Value)) (hlen:gs.length=fs.length) (hsm:fs.length≤1000) (s0:σ) (c:Nat)
  (h0:I 0 s0) (hI:∀ k f,gs[k]?=some f→∀ s,I k s→I (k+1) (f s).1)
  (hent:∀ f∈fs,∀ args w',(callFunc f.1 args).run Tryz.prog w'=.ok (.enter f.1 args) w')
  (hstep:∀ (k:Nat) f g,fs[k]?=some f→gs[k]?=some g→∀ w' s,I k s→In F0 w0 w' (Cells fb (fs.map fnV).toArray T::X s) →
   Calls Tryz.prog f.1 f.2 w' fun e w''=>e=.returned (.int .i64 (g s).2)∧In F0 w0 w'' (Cells fb (fs.map fnV).toArray T::X (g s).1))
  (h:In F0 w0 w (Cells fb (fs.map fnV).toArray T::X s0)) :
  Calls Tryz.prog 84 #[.slice (some ⟨fb,0,none⟩) fs.length c] w fun e w'=>e=.returned (.int .i64 (foldD gs s0).2)∧In F0 w0 w' (Cells fb (fs.map fnV).toArray T::X (foldD gs s0).1):=
 all_call (fun s=>Cells fb (fs.map fnV).toArray T::X s) gs fs hlen hsm s0 fb c
  (fun s w' h' j v hv=>cell_of (h'.block 0 rfl) (by rw [← hv];simp))
  hent
  (fun i f gi hf hg w' hz h'=>hstep i f gi hf hg w' _ (fold_inv h0 hI i (by have:=(List.getElem?_eq_some_iff.1 hg).1;omega) hz) h') h
/-! The like where some are methods,bound to their receiver. -/
def fnV3 (f:FuncId×Array Value×Array Value):Value:=.func (.func f.1) f.2.1 f.2.2
theorem all_call3 {σ:Type} (R:σ→List Asrt) (g:List (σ→σ×Int)) (fs:List (FuncId×Array Value×Array Value)) (hlen:g.length=fs.length) (hsm:fs.length≤1000) (s0:σ) (b c:Nat)
  (hsrc:∀ s w',In F0 w0 w' (R s)→∀ (j:Nat) v,(fs.map fnV3)[j]?=some v→w'.cell? ⟨b,j,none⟩=some v)
  (hent:∀ f∈fs,∀ args w',(callFunc f.1 args).run Tryz.prog w'=.ok (.enter f.1 args) w')
  (hstep:∀ (i:Nat) f gi,fs[i]?=some f→g[i]?=some gi→∀ w',(foldD (g.take i) s0).2=0→In F0 w0 w' (R (foldD (g.take i) s0).1) →
   Calls Tryz.prog f.1 (f.2.1++f.2.2) w' fun e w''=>e=.returned (.int .i64 (gi (foldD (g.take i) s0).1).2)∧In F0 w0 w'' (R (gi (foldD (g.take i) s0).1).1))
  (h:In F0 w0 w (R s0)) :
  Calls Tryz.prog 84 #[.slice (some ⟨b,0,none⟩) fs.length c] w fun e w'=>e=.returned (.int .i64 (foldD g s0).2)∧In F0 w0 w' (R (foldD g s0).1):=by
 have HS:Hid (AllRel R g s0 fs.length F0 w0 (.int .i64 0) w):=Lib.hid ⟨0,rfl,Nat.zero_le _,rfl,h⟩
 have HSRC:=Lib.hid hsrc
 have HENT:=Lib.hid hent
 have HSTEP:=Lib.hid hstep
 have HLEN:=Lib.hid hlen
 clear h hsrc hent hstep hlen
 go_enter Tryz.func84,Tryz.ntmps84
 go_wp2_with fail
 go_loopw [8] (AllRel R g s0 fs.length F0 w0) (fun k _=>fs.length - (intOf k).toNat)
 case atStart=>exact HS.out
 case round=>
  obtain⟨i,rfl,hi,h0,ho⟩:=hrel
  clear HS
  by_cases hlt:i < fs.length
  ·obtain⟨f,hf⟩:∃ f,fs[i]?=some f:=⟨fs[i],List.getElem?_eq_getElem hlt⟩
   obtain⟨gi,hg⟩:∃ gi,g[i]?=some gi:=⟨g[i]'(by rw [HLEN.out];exact hlt),List.getElem?_eq_getElem _⟩
   have c0:=HSRC.out _ wr ho i (fnV3 f) (by simp [hf])
   have eg:=HENT.out f (List.mem_of_getElem? hf)
   have K:=Lib.hid (HSTEP.out i f gi hf hg wr h0 ho)
   have hst:foldD (g.take (i+1)) s0=gi (foldD (g.take i) s0).1:=by
    unfold foldD at h0 ⊢
    rw [List.take_add_one,hg]
    simp only [Option.toList_some,List.foldl_append,List.foldl_cons,List.foldl_nil]
    exact thenD_ok h0
   have hend:(gi (foldD (g.take i) s0).1).2≠0→foldD g s0=gi (foldD (g.take i) s0).1:=fun hne=>by
    have e:g=g.take (i+1)++g.drop (i+1):=(List.take_append_drop _ _).symm
    have e2:foldD g s0=(g.drop (i+1)).foldl thenD (foldD (g.take (i+1)) s0):=by
     unfold foldD
     conv=>lhs;rw [e]
     rw [List.foldl_append]
    rw [e2,hst]
    exact foldD_err _ hne
   have HST:=Lib.hid hst
   have HEND:=Lib.hid hend
   have hlt':(i:Int) < (fs.length:Int):=by omega
   clear ho hf hg hst hend h0 hlt
   unfold fnV3 at c0
   obtain⟨fid,bnd,caps⟩:=f
   simp only at c0 eg K
   generalize gi (foldD (g.take i) s0).1=r at *
   by_cases hr:r.2=0
   ·have HRZ:=Lib.hid hr
    clear hr
    go_wp2_with fail
    refine K.out.mono ?_
    rintro e w1 ⟨rfl,g1⟩
    rw [HRZ.out]
    have HR:Hid (AllRel R g s0 fs.length F0 w0 (.int .i64 (i+1)) w1):=Lib.hid ⟨i+1,by go_num,by omega,by rw [HST.out];exact HRZ.out,by rw [HST.out];exact g1⟩
    clear g1 K HST HEND HRZ
    go_wp2_with fail
    go_roundw
    case rel=>exact HR.out
    case measure=>simp [intOf];omega
   ·have q:(r.2 != 0)=true:=by rw [bne_iff_ne];exact hr
    have HE:=Lib.hid (HEND.out hr)
    clear hr HST HEND
    go_wp2_with fail
    refine K.out.mono ?_
    rintro e w1 ⟨rfl,g1⟩
    have HF:Hid (Ending.returned (.int .i64 r.2)=Ending.returned (.int .i64 (foldD g s0).2)∧In F0 w0 w1 (R (foldD g s0).1)):=Lib.hid ⟨by rw [HE.out],by rw [HE.out];exact g1⟩
    clear g1 K HE
    go_wp2_with fail
    go_ret
    exact HF.out
  ·have hge:(fs.length:Int)≤(i:Int):=by omega
   have hil:g.take i=g:=List.take_of_length_le (by rw [HLEN.out];omega)
   rw [hil] at h0 ho
   have HF:Hid (Ending.returned (.int .i64 0)=Ending.returned (.int .i64 (foldD g s0).2)∧In F0 w0 wr (R (foldD g s0).1)):=Lib.hid ⟨by rw [h0],ho⟩
   clear h0 ho hil hlt
   go_wp2_with fail
   go_ret
   exact HF.out
theorem all_fn3 {σ:Type} (I:Nat→σ→Prop) (X:σ→List Asrt) (fb:Nat) (T:TypeId) (gs:List (σ→σ×Int)) (fs:List (FuncId×Array Value×Array Value)) (hlen:gs.length=fs.length) (hsm:fs.length≤1000) (s0:σ) (c:Nat)
  (h0:I 0 s0) (hI:∀ k f,gs[k]?=some f→∀ s,I k s→I (k+1) (f s).1)
  (hent:∀ f∈fs,∀ args w',(callFunc f.1 args).run Tryz.prog w'=.ok (.enter f.1 args) w')
  (hstep:∀ (k:Nat) f g,fs[k]?=some f→gs[k]?=some g→∀ w' s,I k s→In F0 w0 w' (Cells fb (fs.map fnV3).toArray T::X s) →
   Calls Tryz.prog f.1 (f.2.1++f.2.2) w' fun e w''=>e=.returned (.int .i64 (g s).2)∧In F0 w0 w'' (Cells fb (fs.map fnV3).toArray T::X (g s).1))
  (h:In F0 w0 w (Cells fb (fs.map fnV3).toArray T::X s0)) :
  Calls Tryz.prog 84 #[.slice (some ⟨fb,0,none⟩) fs.length c] w fun e w'=>e=.returned (.int .i64 (foldD gs s0).2)∧In F0 w0 w' (Cells fb (fs.map fnV3).toArray T::X (foldD gs s0).1):=
 all_call3 (fun s=>Cells fb (fs.map fnV3).toArray T::X s) gs fs hlen hsm s0 fb c
  (fun s w' h' j v hv=>cell_of (h'.block 0 rfl) (by rw [← hv];simp))
  hent
  (fun i f gi hf hg w' hz h'=>hstep i f gi hf hg w' _ (fold_inv h0 hI i (by have:=(List.getElem?_eq_some_iff.1 hg).1;omega) hz) h') h
end
end Go.Proofs.YtaopfagclnocdaaGreat
