/- Rows.StoreRefusesSaid -/
import Derived.Test.YtpmmiljakbojaaaGreatRF12
import Derived.Test.YtpmmiljakbojaaaGreatRF24
import Derived.Test.YtpmmiljakbojaaaGreatRF26
namespace Go.Proofs.YtpmmiljakbojaaaGreat
open Go.RowKit
set_option linter.unusedVariables false
set_option maxHeartbeats 64000000
set_option maxRecDepth 100000
abbrev soC (lb stb:Nat) (g:Int) (bv dv fv:Value):Array Value:=#[dptr lb,pR stb,.int .i64 g,bv,dv,fv]
def SoR (sb lb stb:Nat) (bv dv fv:Value) (s:StD):List Asrt:=[Cells sb (soC lb stb s.gen bv dv fv) 71,BkR bv s.bks,DrR dv s.drs,FlR fv s.fls]
theorem SoR.framed {sb lb stb:Nat} {bv dv fv:Value} {s:StD}:∀ A∈SoR sb lb stb bv dv fv s,Framed A:=by
 intro A hA
 simp only [SoR,List.mem_cons,List.not_mem_nil,or_false] at hA
 rcases hA with rfl | rfl | rfl | rfl
 ·exact Cells.framed _ _ _
 ·exact RowA.framed _ _ _ _ _
 ·exact RowA.framed _ _ _ _ _
 ·exact RowA.framed _ _ _ _ _
def SoA (sb lb stb:Nat) (s:StD):Asrt:=fun w F=>∃ bv dv fv,Star (SoR sb lb stb bv dv fv s) w F
theorem SoA.framed (sb lb stb:Nat) (s:StD):Framed (SoA sb lb stb s):=by
 refine⟨?_,?_⟩
 ·rintro w w' F ⟨bv,dv,fv,h2⟩ hk;exact⟨bv,dv,fv,(Framed.star SoR.framed).keep h2 hk⟩
 ·rintro w F ⟨bv,dv,fv,h2⟩;exact (Framed.star SoR.framed).lt h2
abbrev SoL (sb lb bd stb:Nat) (s:SD) (R:List Asrt):List Asrt:=SoA sb lb stb s.2.sure::LgA lb bd s.2.l::DkA bd s.1::StA stb s.2.st::R
section
variable {F0:List Nat} {w0 w:World} {R:List Asrt} {sb lb stb:Nat} {s:StD}
theorem In.soOpen (h:In F0 w0 w (SoA sb lb stb s::R)):∃ A a D d F f,In F0 w0 w (Cells sb (soC lb stb s.gen (.slice A s.bks.length a) (.slice D s.drs.length d) (.slice F s.fls.length f)) 71::BkR (.slice A s.bks.length a) s.bks::DrR (.slice D s.drs.length d) s.drs::FlR (.slice F s.fls.length f) s.fls::R):=by
 obtain⟨F,⟨F1,F2,⟨bv,dv,fv,h1⟩,h2,h3,rfl⟩,hF⟩:=h.star
 have h4:In F0 w0 w (SoR sb lb stb bv dv fv s++R):=by
  refine⟨fun B hB=>?_,⟨_,star_backS h1 h2 h3,hF⟩,h.mod⟩
  rcases List.mem_append.1 hB with hB | hB
  ·exact SoR.framed _ hB
  ·exact h.framed B (List.mem_cons_of_mem _ hB)
 obtain⟨Fv,rv⟩:=h4.get 1 rfl
 obtain⟨A,a,rfl,-,-,-⟩:=RowA.shape rv
 obtain⟨Fu,ru⟩:=h4.get 2 rfl
 obtain⟨D,d,rfl,-,-,-⟩:=RowA.shape ru
 obtain⟨Ft,rt⟩:=h4.get 3 rfl
 obtain⟨G,f,rfl,-,-,-⟩:=RowA.shape rt
 exact⟨A,a,D,d,G,f,h4⟩
theorem In.soClose {bv dv fv:Value} (h:In F0 w0 w (Cells sb (soC lb stb s.gen bv dv fv) 71::BkR bv s.bks::DrR dv s.drs::FlR fv s.fls::R)):In F0 w0 w (SoA sb lb stb s::R):=
 (In.join (A1:=SoR sb lb stb bv dv fv s) (R:=R) h).imp (A':=SoA sb lb stb s) 0 rfl (SoA.framed _ _ _ _) (fun F hF=>⟨bv,dv,fv,hF⟩)
end
theorem all_snoc {l:List Rec} {k:Nat} {x:Rec} {s:StD} (hx:l[k]?=some x) (h:(applyAll (l.take k) s).2=0) (h2:(applySt (applyAll (l.take k) s).1 x).2=0):applyAll (l.take (k+1)) s=((applySt (applyAll (l.take k) s).1 x).1,0):=by
 rw [List.take_add_one,hx,Option.toList_some,applyAll_app,if_neg (by simp [h])]
 show (if (applySt (applyAll (l.take k) s).1 x).2≠0 then applySt (applyAll (l.take k) s).1 x else applyAll [] (applySt (applyAll (l.take k) s).1 x).1)=_
 rw [if_neg (by simp [h2])];rfl
theorem all_err {l:List Rec} {k:Nat} {x:Rec} {s:StD} (hx:l[k]?=some x) (h:(applyAll (l.take k) s).2=0) (h2:(applySt (applyAll (l.take k) s).1 x).2≠0):applyAll l s=applySt (applyAll (l.take k) s).1 x:=by
 obtain⟨hk,hx'⟩:=List.getElem?_eq_some_iff.1 hx
 conv=>lhs;rw [← List.take_append_drop k l]
 rw [applyAll_app,if_neg (by simp [h]),List.drop_eq_getElem_cons hk,hx']
 show (if (applySt (applyAll (l.take k) s).1 x).2≠0 then applySt (applyAll (l.take k) s).1 x else _)=_
 rw [if_pos h2]
theorem recs_el {v:StD} {k:Nat} {x:Rec} (hx:(recsSt v)[k]?=some x):(k=0∧x.bks=v.bks)∨(k≠0∧x.bks=[]):=by
 cases k with
 | zero=>simp [recsSt] at hx;subst hx;exact Or.inl ⟨rfl,rfl⟩
 | succ k=>
  refine Or.inr ⟨by omega,?_⟩
  have hm:x∈v.drs.map recDr++v.fls.map recFl:=by
   simp only [recsSt,List.getElem?_cons_succ] at hx
   exact List.mem_of_getElem? hx
  rcases List.mem_append.1 hm with hm | hm
  ·obtain⟨d,_,rfl⟩:=List.mem_map.1 hm;rfl
  ·obtain⟨d,_,rfl⟩:=List.mem_map.1 hm;rfl
theorem of_err {v:StD} (h:(applyAll (recsSt v) zeroSt).2≠0):ofSt v=(none,(applyAll (recsSt v) zeroSt).2):=by unfold ofSt;rw [if_pos h]
theorem of_ok {v:StD} (h:(applyAll (recsSt v) zeroSt).2=0) (e:(applyAll (recsSt v) zeroSt).1=v):ofSt v=(some v,0):=by unfold ofSt;rw [if_neg (by simp [h]),if_pos e]
theorem of_ne {v:StD} (h:(applyAll (recsSt v) zeroSt).2=0) (e:(applyAll (recsSt v) zeroSt).1≠v):ofSt v=(none,1):=by unfold ofSt;rw [if_neg (by simp [h]),if_neg e]
section
variable {F0:List Nat} {w0 w:World} {R:List Asrt}
theorem AStV.moreL {v:StD} {A D G:Option Addr}:∀ (X:List Asrt),AStV F0 w0 R v A D G→AStV F0 w0 (X++R) v A D G
 | [],h=>h
 | Y::X,h=>(AStV.moreL X h).more Y
theorem cells4 {W:World} {g:Nat} {a b c d:Value} {T:TypeId} (h:W.heap[g]?=some (.cells #[a,b,c,d] T (0,0))):W.cell? ⟨g,0,none⟩=some a∧W.cell? ⟨g,1,none⟩=some b∧W.cell? ⟨g,2,none⟩=some c∧W.cell? ⟨g,3,none⟩=some d:=⟨cell_of h rfl,cell_of h rfl,cell_of h rfl,cell_of h rfl⟩
def OfRel (v:StD) (g sb:Nat) (C:Array Value) (rv pv:Value) (F0:List Nat) (w0:World) (R:List Asrt) (i:Value) (wr:World):Prop:=
 ∃ k:Nat,k≤(recsSt v).length∧i=.int .i64 k∧(applyAll ((recsSt v).take k) zeroSt).2=0∧In F0 w0 wr (StA sb (applyAll ((recsSt v).take k) zeroSt).1::RowA 39 14 rv (recsSt v).length (recsV pv (recsSt v))::BkR pv v.bks::Cells g C 59::R)
def OfPost (v:StD) (F0:List Nat) (w0:World) (R:List Asrt) (e:Ending) (w':World):Prop:=
 match (ofSt v).1 with
 | some t=>∃ sb,e=.returned (.tuple #[pR sb,.int .i64 0])∧In F0 w0 w' (StA sb v::R)
 | none=>e=.returned (.tuple #[.pointer none,.int .i64 (ofSt v).2])∧In F0 w0 w' R
theorem o_stof {v:StD} {A D F:Option Addr} {a d f:Nat} (hv:AStV F0 w0 R v A D F) (hn:A=none→a=0) (lb:v.bks.length≤1000) (ld:v.drs.length≤1000) (lf:v.fls.length≤1000) (hw:∀ r∈recsSt v,WfR r) (h:In F0 w0 w R):Calls Tryz.prog 97 #[agSt v A a D d F f] w (OfPost v F0 w0 R):=by
 obtain⟨w1,hw1⟩:∃ w1,w1=w.alloc (.cells #[.int .i64 v.gen,.slice A v.bks.length a,.slice D v.drs.length d,.slice F v.fls.length f] 59):=⟨_,rfl⟩
 have h1:=h.cells #[.int .i64 v.gen,.slice A v.bks.length a,.slice D v.drs.length d,.slice F v.fls.length f] 59
 rw [← hw1] at h1
 have K1:=Lib.hid (o_stnew h1)
 have HW:=Lib.hid hw1
 have HV:=Lib.hid hv
 have hmf:∀ (fn:Fn) (first cap:Array Value) (w:World),(Instr.makeFunc fn first cap).run Tryz.prog w=.ok (.func fn first cap) w:=fun _ _ _ _=>rfl
 have hrl:(recsSt v).length≤3000:=by simp [recsSt];omega
 clear h h1 hw1 hv
 go_enter Tryz.func97,Tryz.ntmps97
 go_wp2_with fail
 rw [← HW.out]
 clear HW
 generalize w.heap.size=g at *
 refine K1.out.mono ?_
 rintro e w2 ⟨sb,rfl,g2⟩
 have d0:w2.cell? ⟨g,0,none⟩=some (.int .i64 v.gen):=cell_of (g2.block 1 rfl) rfl
 have d1:w2.cell? ⟨g,1,none⟩=some (.slice A v.bks.length a):=cell_of (g2.block 1 rfl) rfl
 have d2:w2.cell? ⟨g,2,none⟩=some (.slice D v.drs.length d):=cell_of (g2.block 1 rfl) rfl
 have d3:w2.cell? ⟨g,3,none⟩=some (.slice F v.fls.length f):=cell_of (g2.block 1 rfl) rfl
 have K2:=Lib.hid (o_strecs (a:=a) (d:=d) (f:=f) (HV.out.moreL [StA sb zeroSt,Cells g #[.int .i64 v.gen,.slice A v.bks.length a,.slice D v.drs.length d,.slice F v.fls.length f] 59]) hn lb ld lf g2)
 clear g2 K1
 go_wp2_with fail
 refine K2.out.mono ?_
 rintro e w3 ⟨rv,pv,rfl,g3⟩
 obtain⟨Fr,rr⟩:=g3.get 0 rfl
 obtain⟨ra,rc,rfl,-,-,-⟩:=RowA.shape rr
 obtain⟨Fp,rp⟩:=g3.get 1 rfl
 obtain⟨pa,pc,rfl,-,-,-⟩:=RowA.shape rp
 have hnp:pa=none→pc=0:=fun e=>RowA.noc rp e
 have HR:Hid (OfRel v g sb #[.int .i64 v.gen,.slice A v.bks.length a,.slice D v.drs.length d,.slice F v.fls.length f] (.slice ra (recsSt v).length rc) (.slice pa v.bks.length pc) F0 w0 R (.int .i64 0) w3):=Lib.hid ⟨0,Nat.zero_le _,rfl,rfl,g3.sel2 (R1:=[_,_,_]) [2,0,1] (by decide) rfl⟩
 have HN:=Lib.hid hnp
 clear g3 K2 rr rp hn hnp d0 d1 d2 d3
 go_wp2_with fail
 go_loopw [15] (OfRel v g sb #[.int .i64 v.gen,.slice A v.bks.length a,.slice D v.drs.length d,.slice F v.fls.length f] (.slice ra (recsSt v).length rc) (.slice pa v.bks.length pc) F0 w0 R) (fun k _=>(recsSt v).length - (intOf k).toNat)
 case atStart=>exact HR.out
 case round=>
  obtain⟨k,hk,rfl,hok,hio⟩:=hrel
  clear HR
  by_cases hlt:k < (recsSt v).length
  ·obtain⟨x,hx⟩:∃ x,(recsSt v)[k]?=some x:=⟨(recsSt v)[k],List.getElem?_eq_getElem hlt⟩
   obtain⟨Fr,rr⟩:=hio.get 1 rfl
   obtain⟨gr,o,rfl,sc⟩:=rr.all.plain (by omega) (by decide)
   obtain⟨Ax,cx,hpx,hnx,hbx⟩:∃ Ax cx,(if k=0 then (Value.slice pa v.bks.length pc) else .slice none 0 0)=.slice Ax x.bks.length cx∧(Ax=none→cx=0)∧BksAt F0 w0 (RowA 39 14 (.slice (some ⟨gr,o,none⟩) (recsSt v).length rc) (recsSt v).length (recsV (.slice pa v.bks.length pc) (recsSt v))::BkR (.slice pa v.bks.length pc) v.bks::Cells g #[.int .i64 v.gen,.slice A v.bks.length a,.slice D v.drs.length d,.slice F v.fls.length f] 59::R) Ax x.bks:=by
    rcases recs_el hx with ⟨rfl,e⟩|⟨h0,e⟩
    ·refine⟨pa,pc,by rw [if_pos rfl,e],HN.out,?_⟩
     rw [e]
     exact fun w' h'=>by obtain⟨F',r'⟩:=h'.get 1 rfl;exact r'.all
    ·refine⟨none,0,by rw [if_neg h0,e];rfl,fun _=>rfl,?_⟩
     rw [e]
     exact fun w' h'=>Src.nil _ _ _
   have c0:wr.cell? ⟨gr,o+k * 14,none⟩=some (.int .i64 x.kind):=by
    have:=sc (k * 14+0) _ (by rw [recsV_at hx 0 (by decide),hpx];rfl)
    rwa [← Nat.add_assoc] at this
   have c1:wr.cell? ⟨gr,o+k * 14+1,none⟩=some (.int .u32 x.fl.t.src):=by
    have:=sc (k * 14+1) _ (by rw [recsV_at hx 1 (by decide),hpx];rfl)
    rwa [← Nat.add_assoc] at this
   have c2:wr.cell? ⟨gr,o+k * 14+2,none⟩=some (.int .u32 x.fl.t.dst):=by
    have:=sc (k * 14+2) _ (by rw [recsV_at hx 2 (by decide),hpx];rfl)
    rwa [← Nat.add_assoc] at this
   have c3:wr.cell? ⟨gr,o+k * 14+3,none⟩=some (.int .i64 x.fl.t.proto):=by
    have:=sc (k * 14+3) _ (by rw [recsV_at hx 3 (by decide),hpx];rfl)
    rwa [← Nat.add_assoc] at this
   have c4:wr.cell? ⟨gr,o+k * 14+4,none⟩=some (.int .i64 x.fl.t.sport):=by
    have:=sc (k * 14+4) _ (by rw [recsV_at hx 4 (by decide),hpx];rfl)
    rwa [← Nat.add_assoc] at this
   have c5:wr.cell? ⟨gr,o+k * 14+5,none⟩=some (.int .i64 x.fl.t.dport):=by
    have:=sc (k * 14+5) _ (by rw [recsV_at hx 5 (by decide),hpx];rfl)
    rwa [← Nat.add_assoc] at this
   have c6:wr.cell? ⟨gr,o+k * 14+6,none⟩=some (.int .i64 x.fl.bk):=by
    have:=sc (k * 14+6) _ (by rw [recsV_at hx 6 (by decide),hpx];rfl)
    rwa [← Nat.add_assoc] at this
   have c7:wr.cell? ⟨gr,o+k * 14+7,none⟩=some (.int .i64 x.fl.gen):=by
    have:=sc (k * 14+7) _ (by rw [recsV_at hx 7 (by decide),hpx];rfl)
    rwa [← Nat.add_assoc] at this
   have c8:wr.cell? ⟨gr,o+k * 14+8,none⟩=some (.int .i64 x.fl.seen):=by
    have:=sc (k * 14+8) _ (by rw [recsV_at hx 8 (by decide),hpx];rfl)
    rwa [← Nat.add_assoc] at this
   have c9:wr.cell? ⟨gr,o+k * 14+9,none⟩=some (.int .i64 x.gen):=by
    have:=sc (k * 14+9) _ (by rw [recsV_at hx 9 (by decide),hpx];rfl)
    rwa [← Nat.add_assoc] at this
   have c10:wr.cell? ⟨gr,o+k * 14+10,none⟩=some (.slice Ax x.bks.length cx):=by
    have:=sc (k * 14+10) _ (by rw [recsV_at hx 10 (by decide),hpx];rfl)
    rwa [← Nat.add_assoc] at this
   have c11:wr.cell? ⟨gr,o+k * 14+11,none⟩=some (.int .i64 x.bk):=by
    have:=sc (k * 14+11) _ (by rw [recsV_at hx 11 (by decide),hpx];rfl)
    rwa [← Nat.add_assoc] at this
   have c12:wr.cell? ⟨gr,o+k * 14+12,none⟩=some (.int .i64 x.till):=by
    have:=sc (k * 14+12) _ (by rw [recsV_at hx 12 (by decide),hpx];rfl)
    rwa [← Nat.add_assoc] at this
   have c13:wr.cell? ⟨gr,o+k * 14+13,none⟩=some (.int .i64 x.count):=by
    have:=sc (k * 14+13) _ (by rw [recsV_at hx 13 (by decide),hpx];rfl)
    rwa [← Nat.add_assoc] at this
   have hlt':(k:Int) < ((recsSt v).length:Int):=Int.ofNat_lt.2 hlt
   have hw2:wrap64 ((k:Int)+1)=(k:Int)+1:=by unfold wrap64;omega
   have hbl:x.bks.length≤1000000:=by
    rcases recs_el hx with ⟨_,e⟩|⟨_,e⟩ <;> rw [e]
    ·omega
    ·exact Nat.zero_le _
   have KA:=Lib.hid (o_apply (r:=x) hbx hnx hbl (hw x (List.mem_of_getElem? hx)) (hio.cells #[.int .i64 x.kind,.int .u32 x.fl.t.src,.int .u32 x.fl.t.dst,.int .i64 x.fl.t.proto,.int .i64 x.fl.t.sport,.int .i64 x.fl.t.dport,.int .i64 x.fl.bk,.int .i64 x.fl.gen,.int .i64 x.fl.seen,.int .i64 x.gen,.slice Ax x.bks.length cx,.int .i64 x.bk,.int .i64 x.till,.int .i64 x.count] 39).drop)
   have HX:=Lib.hid hx
   have HOK:=Lib.hid hok
   have HM:=Lib.hid (meas_lt hlt')
   clear hio hx hk rr sc hpx hnx hbx hbl hok
   go_wp2_with fail
   refine KA.out.mono ?_
   rintro e w4 ⟨rfl,g4⟩
   clear KA
   by_cases he:(applySt (applyAll ((recsSt v).take k) zeroSt).1 x).2=0
   ·rw [he]
    have HR:Hid (OfRel v g sb #[.int .i64 v.gen,.slice A v.bks.length a,.slice D v.drs.length d,.slice F v.fls.length f] (.slice (some ⟨gr,o,none⟩) (recsSt v).length rc) (.slice pa v.bks.length pc) F0 w0 R (.int .i64 ((k:Int)+1)) w4):=Lib.hid ⟨k+1,(List.getElem?_eq_some_iff.1 HX.out).1,by rw [Int.natCast_add];rfl,by rw [all_snoc HX.out HOK.out he],by rw [all_snoc HX.out HOK.out he];exact g4⟩
    clear g4 he
    go_wp2_with fail
    go_roundw
    case rel=>(try rw [hw2]);exact HR.out
    case measure=>(try rw [hw2]);exact HM.out
   ·have q:((applySt (applyAll ((recsSt v).take k) zeroSt).1 x).2 != 0)=true:=by rw [bne_iff_ne];exact he
    have G:Hid (OfPost v F0 w0 R (.returned (.tuple #[.pointer none,.int .i64 (applySt (applyAll ((recsSt v).take k) zeroSt).1 x).2])) w4):=Lib.hid (by
     unfold OfPost
     rw [of_err (by rw [all_err HX.out HOK.out he];exact he),all_err HX.out HOK.out he]
     exact⟨rfl,g4.drop.drop.drop.drop⟩)
    clear g4 he HM HX HOK
    generalize (applySt (applyAll ((recsSt v).take k) zeroSt).1 x).2=er at *
    go_wp2_with fail
    go_ret2
    exact G.out
  ·have hkl:k=(recsSt v).length:=by omega
   subst hkl
   rw [List.take_length] at hok hio
   have ht:=hio.stOpen.1
   obtain⟨t1,t2,t3⟩:=ht.lens
   have HOF:Hid (∀ w' e,(if (applyAll (recsSt v) zeroSt).1=v then (e=.returned (.tuple #[pR sb,.int .i64 0])∧In F0 w0 w' (StA sb v::R)) else (e=.returned (.tuple #[.pointer none,.int .i64 1])∧In F0 w0 w' R))→OfPost v F0 w0 R e w'):=Lib.hid (fun w' e hh=>by
    unfold OfPost
    by_cases hE:(applyAll (recsSt v) zeroSt).1=v
    ·rw [if_pos hE] at hh
     rw [of_ok hok hE];exact⟨sb,hh.1,hh.2⟩
    ·rw [if_neg hE] at hh
     rw [of_ne hok hE];exact hh)
   generalize (applyAll (recsSt v) zeroSt).1=t at *
   have hge:((recsSt v).length:Int)≤((recsSt v).length:Int):=Int.le_refl _
   have hz0:(wr.drewN 1).cell? ⟨g,0,none⟩=some (.int .i64 v.gen)∧(wr.drewN 1).cell? ⟨g,1,none⟩=some (.slice A v.bks.length a)∧(wr.drewN 1).cell? ⟨g,2,none⟩=some (.slice D v.drs.length d)∧(wr.drewN 1).cell? ⟨g,3,none⟩=some (.slice F v.fls.length f):=⟨cell_of ((hio.drewN 1).block 3 rfl) rfl,cell_of ((hio.drewN 1).block 3 rfl) rfl,cell_of ((hio.drewN 1).block 3 rfl) rfl,cell_of ((hio.drewN 1).block 3 rfl) rfl⟩
   have KV:Hid (Calls Tryz.prog 21 #[pR sb] (wr.drewN 1) fun e w'=>∃ A1 a1 D1 d1 F1 f1,e=.returned (agSt t A1 a1 D1 d1 F1 f1)∧In F0 w0 w' (BkR (.slice A1 t.bks.length a1) t.bks::DrR (.slice D1 t.drs.length d1) t.drs::FlR (.slice F1 t.fls.length f1) t.fls::StA sb t::RowA 39 14 (.slice ra (recsSt v).length rc) (recsSt v).length (recsV (.slice pa v.bks.length pc) (recsSt v))::BkR (.slice pa v.bks.length pc) v.bks::Cells g #[.int .i64 v.gen,.slice A v.bks.length a,.slice D v.drs.length d,.slice F v.fls.length f] 59::R)):=Lib.hid (o_stview (hio.drewN 1))
   have HL:Hid (t.bks.length≤1000000∧t.drs.length≤1000000∧t.fls.length≤1000000):=Lib.hid ⟨by omega,by omega,by omega⟩
   cases hd:decide (t=v) with
   | true=>
    have HD:=Lib.hid hd
    clear hio hlt hk hok ht t1 t2 t3 hd
    go_wp2_with fail
    go_region_held3 (fun w'=>w'.cell? ⟨g,0,none⟩=some (.int .i64 v.gen)∧w'.cell? ⟨g,1,none⟩=some (.slice A v.bks.length a)∧w'.cell? ⟨g,2,none⟩=some (.slice D v.drs.length d)∧w'.cell? ⟨g,3,none⟩=some (.slice F v.fls.length f)) (first | exact hz2 | exact hz1 | exact hz0) (first
     | (go_at_call 21;refine KV.out.mono ?_;rintro e w5 ⟨A1,a1,D1,d1,F1,f1,rfl,g5⟩;have hz1:=cells4 (g5.block 6 rfl);have KS:=Lib.hid (o_stsame (a1:=a1) (e1:=d1) (h1:=f1) (a2:=a) (e2:=d) (h2:=f) (stV_of 0 1 2 rfl rfl rfl) (HV.out.moreL [_,_,_,_,_,_,_]) HL.out.1 HL.out.2.1 HL.out.2.2 g5);clear g5)
     | (go_at_call 149;refine KS.out.mono ?_;rintro e w6 ⟨rfl,g6⟩;rw [HD.out];have hz2:=cells4 (g6.block 6 rfl);have G6:=Lib.hid (HOF.out w6 (.returned (.tuple #[pR sb,.int .i64 0])) (by have e:=of_decide_eq_true HD.out;rw [if_pos e,← e];exact⟨rfl,g6.sel2 (R1:=[_,_,_,_,_,_,_]) [3] (by decide) rfl⟩));clear g6))
    go_wp2_with fail
    go_ret2
    exact G6.out
   | false=>
    have HD:=Lib.hid hd
    clear hio hlt hk hok ht t1 t2 t3 hd
    go_wp2_with fail
    go_region_held3 (fun w'=>w'.cell? ⟨g,0,none⟩=some (.int .i64 v.gen)∧w'.cell? ⟨g,1,none⟩=some (.slice A v.bks.length a)∧w'.cell? ⟨g,2,none⟩=some (.slice D v.drs.length d)∧w'.cell? ⟨g,3,none⟩=some (.slice F v.fls.length f)) (first | exact hz2 | exact hz1 | exact hz0) (first
     | (go_at_call 21;refine KV.out.mono ?_;rintro e w5 ⟨A1,a1,D1,d1,F1,f1,rfl,g5⟩;have hz1:=cells4 (g5.block 6 rfl);have KS:=Lib.hid (o_stsame (a1:=a1) (e1:=d1) (h1:=f1) (a2:=a) (e2:=d) (h2:=f) (stV_of 0 1 2 rfl rfl rfl) (HV.out.moreL [_,_,_,_,_,_,_]) HL.out.1 HL.out.2.1 HL.out.2.2 g5);clear g5)
     | (go_at_call 149;refine KS.out.mono ?_;rintro e w6 ⟨rfl,g6⟩;rw [HD.out];have hz2:=cells4 (g6.block 6 rfl);have G6:=Lib.hid (HOF.out w6 (.returned (.tuple #[.pointer none,.int .i64 1])) (by rw [if_neg (of_decide_eq_false HD.out)];exact⟨rfl,g6.drop.drop.drop.drop.drop.drop.drop⟩));clear g6))
    go_wp2_with fail
    go_ret2
    exact G6.out
end
theorem sized_eq (n:Int):((sized n:Nat):Int)=max 16 (min n 1048576):=by unfold sized;omega
theorem sized_bounds (n:Int):16≤sized n∧sized n≤1048576:=by unfold sized;omega
section
variable {F0:List Nat} {w0 w:World} {R:List Asrt} {bd lb:Nat} {d:DiskD} {l:LogD}
theorem o_sized (n:Int) (w:World):Calls Tryz.prog 51 #[.int .i64 n] w fun e w'=>e=.returned (.int .i64 (sized n))∧w'=w:=by
 have HE:=Lib.hid (sized_eq n)
 go_enter Tryz.func51,Tryz.ntmps51
 go_wp2_with fail
 go_ret
 exact⟨by rw [HE.out];rfl,rfl⟩
theorem cells_row {b:Nat} {u:Value} {T:TypeId} (h:In F0 w0 w (Cells b #[u] T::R)):In F0 w0 w (RowA T 1 (.slice (some ⟨b,0,none⟩) 1 1) 1 [u]::R):=
 h.imp (A':=RowA T 1 (.slice (some ⟨b,0,none⟩) 1 1) 1 [u]) 0 rfl (RowA.framed _ _ _ _ _) fun F ⟨hF,hb⟩=>⟨hF,rfl,Or.inr ⟨b,1,#[u],rfl,Nat.zero_le _,hb,Nat.le_refl _,by unfold maxLen;omega,rfl,rfl⟩⟩
theorem o_create1 (h:In F0 w0 w (DkA bd d::R)) (ho:d.ops≤99999990) {db:Nat} (j:Nat) (hj:R[j]?=some (Cells db #[dptr bd] 26)) :
  Calls Tryz.prog 44 #[.pointer (some ⟨db,0,none⟩)] w fun e w'=>e=.returned (.int .i64 (beginD 1 d).2)∧In F0 w0 w' (DkA bd (beginD 1 d).1::R):=by
 have c0:w.cell? ⟨db,0,none⟩=some (dptr bd):=cell_of (h.block (j+1) hj) rfl
 have C:=Lib.hid (show Calls Tryz.prog 45 #[dptr bd,.int .i64 1] w fun e w'=>e=.returned (.int .i64 (beginD 1 d).2)∧In F0 w0 w' (DkA bd (beginD 1 d).1::R) from o_begin h 0 rfl ho 1 (by omega))
 clear h hj
 go_enter Tryz.func44,Tryz.ntmps44
 go_wp2_with fail
 refine C.out.mono ?_
 rintro e w1 ⟨rfl,g⟩
 have G:=Lib.hid g
 clear g C
 go_wp2_with fail
 go_ret
 exact⟨rfl,G.out⟩
theorem o_create2 (h:In F0 w0 w (DkA bd d::R)) (ho:d.ops≤99999990) {db:Nat} (j:Nat) (hj:R[j]?=some (Cells db #[dptr bd] 26)) :
  Calls Tryz.prog 46 #[.pointer (some ⟨db,0,none⟩)] w fun e w'=>e=.returned (.int .i64 (dSync d (segName 1)).2)∧In F0 w0 w' (DkA bd (dSync d (segName 1)).1::R):=by
 have HP:Hid (∀ w' d',In F0 w0 w' (DkA bd d'::R)→w'.cell? ⟨db,0,none⟩=some (dptr bd)):=Lib.hid fun w' d' h'=>cell_of (h'.block (j+1) hj) rfl
 have HW:=Lib.hid (HP.out w d h)
 have C1:=Lib.hid (fun n=>(show Calls Tryz.prog 48 #[.int .i64 1] (w.drewN n) fun e w'=>e=.returned (.string (segName 1))∧In F0 w0 w' (DkA bd d::R) from o_name (h.drewN n) 1 (by omega)))
 have C2:=Lib.hid (fun w' (h':In F0 w0 w' (DkA bd d::R))=>o_dsync h' 0 rfl (by omega) (segName 1) (segName_size _))
 clear h hj
 generalize segName 1=nm at *
 go_enter Tryz.func46,Tryz.ntmps46
 go_wp2_with fail
 go_region_held3 (fun w'=>w'.cell? ⟨db,0,none⟩=some (dptr bd)) (first | exact HW.out | exact hc2 | exact hc1) (first
  | (go_at_call 48;refine (C1.out 1).mono ?_;rintro e w1 ⟨rfl,g1⟩;have hc1:=HP.out w1 _ g1;have K2:=Lib.hid (C2.out w1 g1);clear g1)
  | (go_at_call 47;refine K2.out.mono ?_;rintro e w2 ⟨rfl,g2⟩;have hc2:=HP.out w2 _ g2;have G:=Lib.hid g2;clear g2))
 go_wp2_with fail
 go_ret
 exact⟨rfl,G.out⟩
theorem o_create3 (m:ManD) {A:Option Addr} {c:Nat} (h:In F0 w0 w (DkA bd d::SegR A c m.segs::R)) (ho:d.ops≤99999990) (hn:m.segs.length≤1000000000) {db mb:Nat} (j k:Nat) (hj:R[j]?=some (Cells db #[dptr bd] 26)) (hk:R[k]?=some (Cells mb #[.int .i64 m.ver,.int .i64 m.next,.slice A m.segs.length c] 104)) :
  Calls Tryz.prog 49 #[.pointer (some ⟨db,0,none⟩),.pointer (some ⟨mb,0,none⟩)] w fun e w'=>e=.returned (.int .i64 (commitD m d).2.2)∧In F0 w0 w' (DkA bd (commitD m d).1::SegR A c m.segs::R):=by
 have c0:w.cell? ⟨db,0,none⟩=some (dptr bd):=cell_of (h.block (j+2) hj) rfl
 have c1:w.cell? ⟨mb,0,none⟩=some (.int .i64 m.ver):=cell_of (h.block (k+2) hk) rfl
 have c2:w.cell? ⟨mb,1,none⟩=some (.int .i64 m.next):=cell_of (h.block (k+2) hk) rfl
 have c3:w.cell? ⟨mb,2,none⟩=some (.slice A m.segs.length c):=cell_of (h.block (k+2) hk) rfl
 have C:=Lib.hid (o_commit h 0 rfl ho m (A:=A) (c:=c) (fun w' h'=>by obtain⟨F',r'⟩:=h'.get 1 rfl;exact r'.all) hn)
 unfold manAgg at C
 clear h hj hk
 go_enter Tryz.func49,Tryz.ntmps49
 go_wp2_with fail
 refine C.out.mono ?_
 rintro e w1 ⟨rfl,g⟩
 have G:=Lib.hid g
 have HX:Hid (∃ x,(commitD m d).2.2=x):=Lib.hid ⟨_,rfl⟩
 clear g C
 go_wp2_with fail
 go_ret
 exact⟨rfl,G.out⟩
def createFs (m:ManD):List (DiskD→DiskD×Int):=[beginD 1,fun d=>dSync d (segName 1),fun d=>((commitD m d).1,(commitD m d).2.2)]
theorem create_all (m:ManD) {fb db mb:Nat} {A:Option Addr} {c:Nat} (ho:d.ops≤99999000) (hn:m.segs.length≤1000000000)
  (fs:List (FuncId×Array Value)) (hfs:fs=[(44,#[.pointer (some ⟨db,0,none⟩)]),(46,#[.pointer (some ⟨db,0,none⟩)]),(49,#[.pointer (some ⟨db,0,none⟩),.pointer (some ⟨mb,0,none⟩)])])
  (h:In F0 w0 w (Cells fb (fs.map fnV).toArray 54::DkA bd d::SegR A c m.segs::Cells mb #[.int .i64 m.ver,.int .i64 m.next,.slice A m.segs.length c] 104::Cells db #[dptr bd] 26::R)) :
  Calls Tryz.prog 43 #[.slice (some ⟨fb,0,none⟩) 3 3] w fun e w'=>e=.returned (.int .i64 (foldD (createFs m) d).2)∧In F0 w0 w' (DkA bd (foldD (createFs m) d).1::SegR A c m.segs::Cells mb #[.int .i64 m.ver,.int .i64 m.next,.slice A m.segs.length c] 104::Cells db #[dptr bd] 26::R):=by
 have hent1:∀ args w',(callFunc 44 args).run Tryz.prog w'=.ok (.enter 44 args) w':=enters_of Tryz.func44 (by kernel_rfl) rfl
 have hent2:∀ args w',(callFunc 46 args).run Tryz.prog w'=.ok (.enter 46 args) w':=enters_of Tryz.func46 (by kernel_rfl) rfl
 have hent3:∀ args w',(callFunc 49 args).run Tryz.prog w'=.ok (.enter 49 args) w':=enters_of Tryz.func49 (by kernel_rfl) rfl
 have hlen:fs.length=3:=by rw [hfs];rfl
 have key:=all_fn (F0:=F0) (w0:=w0) (w:=w) (fun k (s:DiskD)=>s.ops≤99999000+10 * k)
  (fun s=>DkA bd s::SegR A c m.segs::Cells mb #[.int .i64 m.ver,.int .i64 m.next,.slice A m.segs.length c] 104::Cells db #[dptr bd] 26::R) fb 54 (createFs m) fs (by rw [hlen];rfl) (by omega) d 3
  (by omega)
  (fun k f hf s hI=>by
   rcases k with _ | _ | _ | k
   ·cases hf;have:=beginD_ops 1 s;omega
   ·cases hf;have:=dSync_ops s (segName 1);show (dSync s (segName 1)).1.ops≤_;omega
   ·cases hf;have:=commitD_ops m s;show (commitD m s).1.ops≤_;omega
   ·simp [createFs] at hf)
  (fun f hf=>by
   rw [hfs] at hf
   simp only [List.mem_cons,List.not_mem_nil,or_false] at hf
   rcases hf with rfl | rfl | rfl
   ·exact hent1
   ·exact hent2
   ·exact hent3)
  (fun k f g hf hg w' s hI h'=>by
   rw [hfs] at hf
   rcases k with _ | _ | _ | k
   ·cases hf;cases hg
    have:=o_create1 (h'.sel2 (R1:=[_,_]) [1,0] (by decide) rfl) (by omega) (db:=db) 3 rfl
    exact this.mono fun e w'' ⟨he,hw⟩=>⟨he,hw.sel2 (R1:=[_,_]) [1,0] (by decide) rfl⟩
   ·cases hf;cases hg
    have:=o_create2 (h'.sel2 (R1:=[_,_]) [1,0] (by decide) rfl) (by omega) (db:=db) 3 rfl
    exact this.mono fun e w'' ⟨he,hw⟩=>⟨he,hw.sel2 (R1:=[_,_]) [1,0] (by decide) rfl⟩
   ·cases hf;cases hg
    have:=o_create3 m (h'.sel2 (R1:=[_,_,_]) [1,2,0] (by decide) rfl) (by omega) hn (db:=db) (mb:=mb) 2 1 rfl rfl
    exact this.mono fun e w'' ⟨he,hw⟩=>⟨he,hw.sel2 (R1:=[_,_,_]) [2,0,1] (by decide) rfl⟩
   ·simp at hf) h
 rw [hlen] at key
 exact key.mono fun e w' ⟨he,hw⟩=>⟨he,hw.drop⟩
def CreatePost (bd:Nat) (r:DiskD×Option LogD×Int) (F0:List Nat) (w0:World) (R:List Asrt) (e:Ending) (w':World):Prop:=
 match r.2.1 with
 | none=>e=.returned (.tuple #[.pointer none,.int .i64 r.2.2])∧In F0 w0 w' (DkA bd r.1::R)
 | some l=>∃ lb,e=.returned (.tuple #[dptr lb,.int .i64 r.2.2])∧In F0 w0 w' (LgA lb bd l::DkA bd r.1::R)
theorem createD_eq (v size:Int) (d:DiskD) (h1:¬ (v < 1∨3 < v)) (h2:(nmAt d.now nmHead).isSome=false) :
  createD v size d=if (foldD (createFs (firstM v.toNat)) d).2≠0 then ((foldD (createFs (firstM v.toNat)) d).1,none,(foldD (createFs (firstM v.toNat)) d).2) else ((foldD (createFs (firstM v.toNat)) d).1,some ⟨sized size,firstM v.toNat,false⟩,0):=by
 unfold createD;rw [if_neg h1,if_neg (by rw [h2];simp)];rfl
theorem o_create (h:In F0 w0 w (DkA bd d::R)) (ho:d.ops≤99999000) (v size:Int) :
  Calls Tryz.prog 19 #[dptr bd,.int .i64 v,.int .i64 size] w (CreatePost bd (createD v size d) F0 w0 R):=by
 have h1:=h.cells #[dptr bd] 26
 have c0:(w.alloc (.cells #[dptr bd] 26)).cell? ⟨w.heap.size,0,none⟩=some (dptr bd):=cell_of (h1.block 0 rfl) rfl
 have HERR:Hid (∀ w' x,In F0 w0 w' (DkA bd d::R)→createD v size d=(d,none,x)→CreatePost bd (createD v size d) F0 w0 R (.returned (.tuple #[.pointer none,.int .i64 x])) w'):=Lib.hid fun w' x h' hx=>by
  rw [hx];exact⟨rfl,h'⟩
 by_cases hv:v < 1∨3 < v
 ·have HE:=Lib.hid (HERR.out _ 10 h1.drop (by unfold createD;rw [if_pos hv]))
  clear h h1 HERR
  by_cases hv1:v < 1
  ·have q1:decide (v < 1)=true:=by simpa using hv1
   clear hv hv1
   go_enter Tryz.func19,Tryz.ntmps19
   go_wp2_with fail
   go_ret2
   exact HE.out
  ·have q1:decide (v < 1)=false:=by simpa using hv1
   have q2:decide (3 < v)=true:=by simp;omega
   clear hv hv1
   go_enter Tryz.func19,Tryz.ntmps19
   go_wp2_with fail
   go_ret2
   exact HE.out
 ·obtain⟨n,rfl⟩:∃ n:Nat,v=(n:Int):=⟨v.toNat,by omega⟩
  have q1:decide ((n:Int) < 1)=false:=by simp;omega
  have q2:decide ((3:Int) < (n:Int))=false:=by simp;omega
  have C1:=Lib.hid (o_there h1 1 rfl nmHead nmHead_size)
  cases hq:(nmAt d.now nmHead).isSome with
  | true=>
   have HE:=Lib.hid (fun w' (h':In F0 w0 w' (Cells w.heap.size #[dptr bd] 26::DkA bd d::R))=>HERR.out w' 12 h'.drop (by unfold createD;rw [if_neg hv,if_pos hq]))
   rw [hq] at C1
   clear h h1 HERR hv hq
   go_enter Tryz.func19,Tryz.ntmps19
   go_wp2_with fail
   refine C1.out.mono ?_
   rintro e w1 ⟨rfl,g1⟩
   have HF:=Lib.hid (HE.out w1 g1)
   clear g1 C1 HE
   go_wp2_with fail
   go_ret2
   exact HF.out
  | false=>
   have HE:=Lib.hid (createD_eq n size d hv hq)
   rw [hq] at C1
   clear h h1 HERR hv hq
   go_enter Tryz.func19,Tryz.ntmps19
   go_wp2_with fail
   refine C1.out.mono ?_
   rintro e w1 ⟨rfl,g1⟩
   clear C1
   have g2:=cells_row (g1.cells #[.int .i64 1] 3)
   have g3:=g2.cells #[.int .i64 n,.int .i64 2,.slice (some ⟨w1.heap.size,0,none⟩) 1 1] 104
   have g4:=g3.cells #[.func (.func 44) #[] #[.pointer (some ⟨w.heap.size,0,none⟩)],.func (.func 46) #[] #[.pointer (some ⟨w.heap.size,0,none⟩)],.func (.func 49) #[] #[.pointer (some ⟨w.heap.size,0,none⟩),.pointer (some ⟨w1.heap.size+1,0,none⟩)]] 54
   simp only [World.size_alloc] at g4
   have K:=create_all (R:=R) (firstM n) (db:=w.heap.size) (mb:=w1.heap.size+1) (fb:=w1.heap.size+1+1) (A:=some ⟨w1.heap.size,0,none⟩) (c:=1) ho (by simp [firstM]) _ rfl (g4.sel2 (R1:=[_,_,_,_,_]) [0,4,2,1,3] (by decide) rfl)
   simp only [Int.toNat_natCast] at HE
   generalize foldD (createFs (firstM n)) d=r at *
   have KH:=Lib.hid K
   clear K g1 g2 g3 g4 c0
   by_cases hz:r.2=0
   ·have HC:Hid (createD n size d=(r.1,some ⟨sized size,firstM n,false⟩,0)):=Lib.hid (by rw [HE.out,if_neg (by simpa using hz)])
    have HZ:=Lib.hid hz
    clear hz HE
    go_wp2_with fail
    refine KH.out.mono ?_
    rintro e w2 ⟨rfl,g5⟩
    rw [HZ.out]
    have HS:Hid (w2.cell? ⟨w.heap.size,0,none⟩=some (dptr bd)∧w2.cell? ⟨w1.heap.size+1,0,none⟩=some (.int .i64 n)∧w2.cell? ⟨w1.heap.size+1,1,none⟩=some (.int .i64 2)∧w2.cell? ⟨w1.heap.size+1,2,none⟩=some (.slice (some ⟨w1.heap.size,0,none⟩) 1 1)):=Lib.hid
     ⟨cell_of (g5.block 3 rfl) rfl,cell_of (g5.block 2 rfl) rfl,cell_of (g5.block 2 rfl) rfl,cell_of (g5.block 2 rfl) rfl⟩
    have g6:=(g5.drewN 1).cells (lgC bd ⟨sized size,firstM n,false⟩ (.slice (some ⟨w1.heap.size,0,none⟩) 1 1)) 112
    have g7:In F0 w0 ((w2.drewN 1).alloc (.cells (lgC bd ⟨sized size,firstM n,false⟩ (.slice (some ⟨w1.heap.size,0,none⟩) 1 1)) 112)) (LgA w2.heap.size bd ⟨sized size,firstM n,false⟩::DkA bd r.1::R):=In.lgClose (l':=⟨sized size,firstM n,false⟩) (v:=.slice (some ⟨w1.heap.size,0,none⟩) 1 1) (g6.sel2 (R1:=[_,_,_,_,_]) [2,0,1] (by decide) rfl)
    have HF:Hid (CreatePost bd (createD n size d) F0 w0 R (.returned (.tuple #[dptr w2.heap.size,.int .i64 0])) _):=Lib.hid (by
     rw [HC.out]
     exact⟨_,rfl,g7⟩)
    clear g5 g6 g7 KH
    go_wp2_with fail
    obtain⟨s0,s1,s2,s3⟩:=HS.out
    go_region_held3 (fun w'=>w'.cell? ⟨w.heap.size,0,none⟩=some (dptr bd)∧w'.cell? ⟨w1.heap.size+1,0,none⟩=some (.int .i64 n)∧w'.cell? ⟨w1.heap.size+1,1,none⟩=some (.int .i64 2)∧w'.cell? ⟨w1.heap.size+1,2,none⟩=some (.slice (some ⟨w1.heap.size,0,none⟩) 1 1))
     (first | with_reducible exact HS.out | ((refine⟨?_,?_,?_,?_⟩ <;> repeat (first | with_reducible exact s0 | with_reducible exact s1 | with_reducible exact s2 | with_reducible exact s3 | rw [World.cell?_drew] | with_reducible refine kp_alloc ?_));done) | go_keep)
     (first | (go_at_call 51;refine (o_sized size _).mono ?_;rintro e w3 ⟨rfl,rfl⟩))
    go_wp2_with fail
    go_ret2
    exact HF.out
   ·have HC:Hid (createD n size d=(r.1,none,r.2)):=Lib.hid (by rw [HE.out,if_pos (by simpa using hz)])
    have q:(r.2 != 0)=true:=by rw [bne_iff_ne];exact hz
    clear hz HE
    go_wp2_with fail
    refine KH.out.mono ?_
    rintro e w2 ⟨rfl,g5⟩
    have HF:Hid (CreatePost bd (createD n size d) F0 w0 R (.returned (.tuple #[.pointer none,.int .i64 r.2])) w2):=Lib.hid (by
     rw [HC.out]
     exact⟨rfl,g5.sel2 (R1:=[_,_,_,_]) [0] (by decide) rfl⟩)
    clear g5 KH
    go_wp2_with fail
    go_ret2
    exact HF.out
end
end Go.Proofs.YtpmmiljakbojaaaGreat
