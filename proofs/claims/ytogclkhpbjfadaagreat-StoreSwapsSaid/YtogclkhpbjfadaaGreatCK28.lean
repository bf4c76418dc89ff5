/- Parts of the proofs that a compaction keeps what lives, and done again is as once. -/
import Derived.Test.YtogclkhpbjfadaaGreatCK12
import Derived.Test.YtogclkhpbjfadaaGreatCK25
import Derived.Test.YtogclkhpbjfadaaGreatCK27
namespace Go.Proofs.YtogclkhpbjfadaaGreat
open Go.RowKit
set_option linter.unusedVariables false
set_option maxHeartbeats 64000000
set_option maxRecDepth 100000
abbrev IM (lb dz:Nat) (g:Int) (bv dv fv:Value):Array Value:=#[aD lb,pR dz,.int .i64 g,bv,dv,fv]
def VA (sb lb dz:Nat) (bv dv fv:Value) (s:fP):List az:=[Cells sb (IM lb dz s.gen bv dv fv) 150,gG bv s.ax,zq dv s.bN,BI fv s.bU]
theorem VA.aA {sb lb dz:Nat} {bv dv fv:Value} {s:fP}:∀ A∈VA sb lb dz bv dv fv s,bC A:=by
 intro A hA
 simp only [VA,List.mem_cons,List.not_mem_nil,or_false] at hA
 rcases hA with rfl | rfl | rfl | rfl
 ·exact Cells.aA _ _ _
 ·exact ay.aA _ _ _ _ _
 ·exact ay.aA _ _ _ _ _
 ·exact ay.aA _ _ _ _ _
def Sk (sb lb dz:Nat) (s:fP):az:=fun w F=>∃ bv dv fv,Star (VA sb lb dz bv dv fv s) w F
theorem Sk.aA (sb lb dz:Nat) (s:fP):bC (Sk sb lb dz s):=by
 refine⟨?_,?_⟩
 ·rintro w w' F ⟨bv,dv,fv,h2⟩ hk;exact⟨bv,dv,fv,(bC.star VA.aA).keep h2 hk⟩
 ·rintro w F ⟨bv,dv,fv,h2⟩;exact (bC.star VA.aA).lt h2
abbrev oG (sb lb bd dz:Nat) (s:SD) (R:List az):List az:=Sk sb lb dz s.2.sure::eB lb bd s.2.l::bJ bd s.1::iH dz s.2.st::R
section
variable {F0:List Nat} {w0 w:World} {R:List az} {sb lb dz:Nat} {s:fP}
theorem In.rH (h:In F0 w0 w (Sk sb lb dz s::R)):∃ A a D d F f,In F0 w0 w (Cells sb (IM lb dz s.gen (.slice A s.ax.length a) (.slice D s.bN.length d) (.slice F s.bU.length f)) 150::gG (.slice A s.ax.length a) s.ax::zq (.slice D s.bN.length d) s.bN::BI (.slice F s.bU.length f) s.bU::R):=by
 obtain⟨F,⟨F1,F2,⟨bv,dv,fv,h1⟩,h2,h3,rfl⟩,hF⟩:=h.star
 have h4:In F0 w0 w (VA sb lb dz bv dv fv s++R):=by
  refine⟨fun B hB=>?_,⟨_,vE h1 h2 h3,hF⟩,h.mod⟩
  rcases List.mem_append.1 hB with hB | hB
  ·exact VA.aA _ hB
  ·exact h.aA B (List.mem_cons_of_mem _ hB)
 obtain⟨Fv,rv⟩:=h4.get 1 rfl
 obtain⟨A,a,rfl,-,-,-⟩:=ay.shape rv
 obtain⟨Fu,ru⟩:=h4.get 2 rfl
 obtain⟨D,d,rfl,-,-,-⟩:=ay.shape ru
 obtain⟨Ft,rt⟩:=h4.get 3 rfl
 obtain⟨G,f,rfl,-,-,-⟩:=ay.shape rt
 exact⟨A,a,D,d,G,f,h4⟩
theorem In.kF {bv dv fv:Value} (h:In F0 w0 w (Cells sb (IM lb dz s.gen bv dv fv) 150::gG bv s.ax::zq dv s.bN::BI fv s.bU::R)):In F0 w0 w (Sk sb lb dz s::R):=
 (In.join (A1:=VA sb lb dz bv dv fv s) (R:=R) h).imp (A':=Sk sb lb dz s) 0 rfl (Sk.aA _ _ _ _) (fun F hF=>⟨bv,dv,fv,hF⟩)
end
theorem BP {l:List Rec} {k:Nat} {x:Rec} {s:fP} (hx:l[k]?=some x) (h:(applyAll (l.take k) s).2=0) (h2:(aX (applyAll (l.take k) s).1 x).2=0):applyAll (l.take (k+1)) s=((aX (applyAll (l.take k) s).1 x).1,0):=by
 rw [List.take_add_one,hx,Option.toList_some,lH,if_neg (by simp [h])]
 show (if (aX (applyAll (l.take k) s).1 x).2≠0 then aX (applyAll (l.take k) s).1 x else applyAll [] (aX (applyAll (l.take k) s).1 x).1)=_
 rw [if_neg (by simp [h2])];rfl
theorem FU {l:List Rec} {k:Nat} {x:Rec} {s:fP} (hx:l[k]?=some x) (h:(applyAll (l.take k) s).2=0) (h2:(aX (applyAll (l.take k) s).1 x).2≠0):applyAll l s=aX (applyAll (l.take k) s).1 x:=by
 obtain⟨hk,hx'⟩:=List.getElem?_eq_some_iff.1 hx
 conv=>lhs;rw [← List.take_append_drop k l]
 rw [lH,if_neg (by simp [h]),List.drop_eq_getElem_cons hk,hx']
 show (if (aX (applyAll (l.take k) s).1 x).2≠0 then aX (applyAll (l.take k) s).1 x else _)=_
 rw [if_pos h2]
theorem uo {v:fP} {k:Nat} {x:Rec} (hx:(aM v)[k]?=some x):(k=0∧x.ax=v.ax)∨(k≠0∧x.ax=[]):=by
 cases k with
 | zero=>simp [aM] at hx;subst hx;exact Or.inl ⟨rfl,rfl⟩
 | succ k=>
  refine Or.inr ⟨by omega,?_⟩
  have hm:x∈v.bN.map iX++v.bU.map kT:=by
   simp only [aM,List.getElem?_cons_succ] at hx
   exact List.mem_of_getElem? hx
  rcases List.mem_append.1 hm with hm | hm
  ·obtain⟨d,_,rfl⟩:=List.mem_map.1 hm;rfl
  ·obtain⟨d,_,rfl⟩:=List.mem_map.1 hm;rfl
theorem Yn {v:fP} (h:(applyAll (aM v) aJ).2≠0):Cn v=(none,(applyAll (aM v) aJ).2):=by unfold Cn;rw [if_pos h]
theorem aab {v:fP} (h:(applyAll (aM v) aJ).2=0) (e:(applyAll (aM v) aJ).1=v):Cn v=(some v,0):=by unfold Cn;rw [if_neg (by simp [h]),if_pos e]
theorem aac {v:fP} (h:(applyAll (aM v) aJ).2=0) (e:(applyAll (aM v) aJ).1≠v):Cn v=(none,1):=by unfold Cn;rw [if_neg (by simp [h]),if_neg e]
section
variable {F0:List Nat} {w0 w:World} {R:List az}
theorem wY.oZ {v:fP} {A D G:Option Addr}:∀ (X:List az),wY F0 w0 R v A D G→wY F0 w0 (X++R) v A D G
 | [],h=>h
 | Y::X,h=>(wY.oZ X h).more Y
theorem fJ {W:World} {g:Nat} {a b c d:Value} {T:TypeId} (h:W.heap[g]?=some (.cells #[a,b,c,d] T (0,0))):W.cell? ⟨g,0,none⟩=some a∧W.cell? ⟨g,1,none⟩=some b∧W.cell? ⟨g,2,none⟩=some c∧W.cell? ⟨g,3,none⟩=some d:=⟨cell_of h rfl,cell_of h rfl,cell_of h rfl,cell_of h rfl⟩
def Sl (v:fP) (g sb:Nat) (C:Array Value) (rv pv:Value) (F0:List Nat) (w0:World) (R:List az) (i:Value) (wr:World):Prop:=
 ∃ k:Nat,k≤(aM v).length∧i=.int .i64 k∧(applyAll ((aM v).take k) aJ).2=0∧In F0 w0 wr (iH sb (applyAll ((aM v).take k) aJ).1::ay 69 14 rv (aM v).length (recsV pv (aM v))::gG pv v.ax::Cells g C 62::R)
def rJ (v:fP) (F0:List Nat) (w0:World) (R:List az) (e:Ending) (w':World):Prop:=
 match (Cn v).1 with
 | some t=>∃ sb,e=.returned (.tuple #[pR sb,.int .i64 0])∧In F0 w0 w' (iH sb v::R)
 | none=>e=.returned (.tuple #[.pointer none,.int .i64 (Cn v).2])∧In F0 w0 w' R
theorem Sm {v:fP} {A D F:Option Addr} {a d f:Nat} (hv:wY F0 w0 R v A D F) (hn:A=none→a=0) (lb:v.ax.length≤1000) (ld:v.bN.length≤1000) (lf:v.bU.length≤1000) (hw:∀ r∈aM v,mQ r) (h:In F0 w0 w R):Calls Tryz.prog 137 #[Ct v A a D d F f] w (rJ v F0 w0 R):=by
 obtain⟨w1,hw1⟩:∃ w1,w1=w.alloc (.cells #[.int .i64 v.gen,.slice A v.ax.length a,.slice D v.bN.length d,.slice F v.bU.length f] 62):=⟨_,rfl⟩
 have h1:=h.cells #[.int .i64 v.gen,.slice A v.ax.length a,.slice D v.bN.length d,.slice F v.bU.length f] 62
 rw [← hw1] at h1
 have K1:=Lib.hid (zO h1)
 have HW:=Lib.hid hw1
 have HV:=Lib.hid hv
 have QK:∀ (fn:Fn) (first cap:Array Value) (w:World),(Instr.makeFunc fn first cap).run Tryz.prog w=.ok (.func fn first cap) w:=fun _ _ _ _=>rfl
 have hrl:(aM v).length≤3000:=by simp [aM];omega
 clear h h1 hw1 hv
 go_enter Tryz.func137,Tryz.ntmps137
 go_wp2_with fail
 rw [← HW.out]
 clear HW
 generalize w.heap.size=g at *
 refine K1.out.mono ?_
 rintro e w2 ⟨sb,rfl,g2⟩
 have d0:w2.cell? ⟨g,0,none⟩=some (.int .i64 v.gen):=cell_of (g2.block 1 rfl) rfl
 have d1:w2.cell? ⟨g,1,none⟩=some (.slice A v.ax.length a):=cell_of (g2.block 1 rfl) rfl
 have d2:w2.cell? ⟨g,2,none⟩=some (.slice D v.bN.length d):=cell_of (g2.block 1 rfl) rfl
 have d3:w2.cell? ⟨g,3,none⟩=some (.slice F v.bU.length f):=cell_of (g2.block 1 rfl) rfl
 have K2:=Lib.hid (IC (a:=a) (d:=d) (f:=f) (HV.out.oZ [iH sb aJ,Cells g #[.int .i64 v.gen,.slice A v.ax.length a,.slice D v.bN.length d,.slice F v.bU.length f] 62]) hn lb ld lf g2)
 clear g2 K1
 go_wp2_with fail
 refine K2.out.mono ?_
 rintro e w3 ⟨rv,pv,rfl,g3⟩
 obtain⟨Fr,rr⟩:=g3.get 0 rfl
 obtain⟨ra,rc,rfl,-,-,-⟩:=ay.shape rr
 obtain⟨Fp,rp⟩:=g3.get 1 rfl
 obtain⟨pa,pc,rfl,-,-,-⟩:=ay.shape rp
 have hnp:pa=none→pc=0:=fun e=>ay.Hy rp e
 have HR:Hid (Sl v g sb #[.int .i64 v.gen,.slice A v.ax.length a,.slice D v.bN.length d,.slice F v.bU.length f] (.slice ra (aM v).length rc) (.slice pa v.ax.length pc) F0 w0 R (.int .i64 0) w3):=Lib.hid ⟨0,Nat.zero_le _,rfl,rfl,g3.aI (R1:=[_,_,_]) [2,0,1] (by decide) rfl⟩
 have HN:=Lib.hid hnp
 clear g3 K2 rr rp hn hnp d0 d1 d2 d3
 go_wp2_with fail
 go_loopw [15] (Sl v g sb #[.int .i64 v.gen,.slice A v.ax.length a,.slice D v.bN.length d,.slice F v.bU.length f] (.slice ra (aM v).length rc) (.slice pa v.ax.length pc) F0 w0 R) (fun k _=>(aM v).length - (intOf k).toNat)
 case atStart=>exact HR.out
 case round=>
  obtain⟨k,hk,rfl,hok,dC⟩:=hrel
  clear HR
  by_cases hlt:k < (aM v).length
  ·obtain⟨x,hx⟩:∃ x,(aM v)[k]?=some x:=⟨(aM v)[k],List.getElem?_eq_getElem hlt⟩
   obtain⟨Fr,rr⟩:=dC.get 1 rfl
   obtain⟨gr,o,rfl,sc⟩:=rr.all.plain (by omega) (by decide)
   obtain⟨Ax,cx,hpx,hnx,hbx⟩:∃ Ax cx,(if k=0 then (Value.slice pa v.ax.length pc) else .slice none 0 0)=.slice Ax x.ax.length cx∧(Ax=none→cx=0)∧gZ F0 w0 (ay 69 14 (.slice (some ⟨gr,o,none⟩) (aM v).length rc) (aM v).length (recsV (.slice pa v.ax.length pc) (aM v))::gG (.slice pa v.ax.length pc) v.ax::Cells g #[.int .i64 v.gen,.slice A v.ax.length a,.slice D v.bN.length d,.slice F v.bU.length f] 62::R) Ax x.ax:=by
    rcases uo hx with ⟨rfl,e⟩|⟨h0,e⟩
    ·refine⟨pa,pc,by rw [if_pos rfl,e],HN.out,?_⟩
     rw [e]
     exact fun w' h'=>by obtain⟨F',r'⟩:=h'.get 1 rfl;exact r'.all
    ·refine⟨none,0,by rw [if_neg h0,e];rfl,fun _=>rfl,?_⟩
     rw [e]
     exact fun w' h'=>Src.nil _ _ _
   have c0:wr.cell? ⟨gr,o+k * 14,none⟩=some (.int .i64 x.kind):=by
    have:=sc (k * 14+0) _ (by rw [bS hx 0 (by decide),hpx];rfl)
    rwa [← Nat.add_assoc] at this
   have c1:wr.cell? ⟨gr,o+k * 14+1,none⟩=some (.int .u32 x.fl.t.src):=by
    have:=sc (k * 14+1) _ (by rw [bS hx 1 (by decide),hpx];rfl)
    rwa [← Nat.add_assoc] at this
   have c2:wr.cell? ⟨gr,o+k * 14+2,none⟩=some (.int .u32 x.fl.t.dst):=by
    have:=sc (k * 14+2) _ (by rw [bS hx 2 (by decide),hpx];rfl)
    rwa [← Nat.add_assoc] at this
   have c3:wr.cell? ⟨gr,o+k * 14+3,none⟩=some (.int .i64 x.fl.t.proto):=by
    have:=sc (k * 14+3) _ (by rw [bS hx 3 (by decide),hpx];rfl)
    rwa [← Nat.add_assoc] at this
   have c4:wr.cell? ⟨gr,o+k * 14+4,none⟩=some (.int .i64 x.fl.t.ag):=by
    have:=sc (k * 14+4) _ (by rw [bS hx 4 (by decide),hpx];rfl)
    rwa [← Nat.add_assoc] at this
   have c5:wr.cell? ⟨gr,o+k * 14+5,none⟩=some (.int .i64 x.fl.t.ah):=by
    have:=sc (k * 14+5) _ (by rw [bS hx 5 (by decide),hpx];rfl)
    rwa [← Nat.add_assoc] at this
   have c6:wr.cell? ⟨gr,o+k * 14+6,none⟩=some (.int .i64 x.fl.bk):=by
    have:=sc (k * 14+6) _ (by rw [bS hx 6 (by decide),hpx];rfl)
    rwa [← Nat.add_assoc] at this
   have c7:wr.cell? ⟨gr,o+k * 14+7,none⟩=some (.int .i64 x.fl.gen):=by
    have:=sc (k * 14+7) _ (by rw [bS hx 7 (by decide),hpx];rfl)
    rwa [← Nat.add_assoc] at this
   have c8:wr.cell? ⟨gr,o+k * 14+8,none⟩=some (.int .i64 x.fl.seen):=by
    have:=sc (k * 14+8) _ (by rw [bS hx 8 (by decide),hpx];rfl)
    rwa [← Nat.add_assoc] at this
   have c9:wr.cell? ⟨gr,o+k * 14+9,none⟩=some (.int .i64 x.gen):=by
    have:=sc (k * 14+9) _ (by rw [bS hx 9 (by decide),hpx];rfl)
    rwa [← Nat.add_assoc] at this
   have c10:wr.cell? ⟨gr,o+k * 14+10,none⟩=some (.slice Ax x.ax.length cx):=by
    have:=sc (k * 14+10) _ (by rw [bS hx 10 (by decide),hpx];rfl)
    rwa [← Nat.add_assoc] at this
   have c11:wr.cell? ⟨gr,o+k * 14+11,none⟩=some (.int .i64 x.bk):=by
    have:=sc (k * 14+11) _ (by rw [bS hx 11 (by decide),hpx];rfl)
    rwa [← Nat.add_assoc] at this
   have c12:wr.cell? ⟨gr,o+k * 14+12,none⟩=some (.int .i64 x.till):=by
    have:=sc (k * 14+12) _ (by rw [bS hx 12 (by decide),hpx];rfl)
    rwa [← Nat.add_assoc] at this
   have c13:wr.cell? ⟨gr,o+k * 14+13,none⟩=some (.int .i64 x.count):=by
    have:=sc (k * 14+13) _ (by rw [bS hx 13 (by decide),hpx];rfl)
    rwa [← Nat.add_assoc] at this
   have hlt':(k:Int) < ((aM v).length:Int):=Int.ofNat_lt.2 hlt
   have hw2:wrap64 ((k:Int)+1)=(k:Int)+1:=by unfold wrap64;omega
   have hbl:x.ax.length≤1000000:=by
    rcases uo hx with ⟨_,e⟩|⟨_,e⟩ <;> rw [e]
    ·omega
    ·exact Nat.zero_le _
   have KA:=Lib.hid (wX (r:=x) hbx hnx hbl (hw x (List.mem_of_getElem? hx)) (dC.cells #[.int .i64 x.kind,.int .u32 x.fl.t.src,.int .u32 x.fl.t.dst,.int .i64 x.fl.t.proto,.int .i64 x.fl.t.ag,.int .i64 x.fl.t.ah,.int .i64 x.fl.bk,.int .i64 x.fl.gen,.int .i64 x.fl.seen,.int .i64 x.gen,.slice Ax x.ax.length cx,.int .i64 x.bk,.int .i64 x.till,.int .i64 x.count] 69).drop)
   have HX:=Lib.hid hx
   have mD:=Lib.hid hok
   have HM:=Lib.hid (dV hlt')
   clear dC hx hk rr sc hpx hnx hbx hbl hok
   go_wp2_with fail
   refine KA.out.mono ?_
   rintro e w4 ⟨rfl,g4⟩
   clear KA
   by_cases he:(aX (applyAll ((aM v).take k) aJ).1 x).2=0
   ·rw [he]
    have HR:Hid (Sl v g sb #[.int .i64 v.gen,.slice A v.ax.length a,.slice D v.bN.length d,.slice F v.bU.length f] (.slice (some ⟨gr,o,none⟩) (aM v).length rc) (.slice pa v.ax.length pc) F0 w0 R (.int .i64 ((k:Int)+1)) w4):=Lib.hid ⟨k+1,(List.getElem?_eq_some_iff.1 HX.out).1,by rw [Int.natCast_add];rfl,by rw [BP HX.out mD.out he],by rw [BP HX.out mD.out he];exact g4⟩
    clear g4 he
    go_wp2_with fail
    go_roundw
    case rel=>(try rw [hw2]);exact HR.out
    case measure=>(try rw [hw2]);exact HM.out
   ·have q:((aX (applyAll ((aM v).take k) aJ).1 x).2 != 0)=true:=by rw [bne_iff_ne];exact he
    have G:Hid (rJ v F0 w0 R (.returned (.tuple #[.pointer none,.int .i64 (aX (applyAll ((aM v).take k) aJ).1 x).2])) w4):=Lib.hid (by
     unfold rJ
     rw [Yn (by rw [FU HX.out mD.out he];exact he),FU HX.out mD.out he]
     exact⟨rfl,g4.drop.drop.drop.drop⟩)
    clear g4 he HM HX mD
    generalize (aX (applyAll ((aM v).take k) aJ).1 x).2=er at *
    go_wp2_with fail
    go_ret2
    exact G.out
  ·have hkl:k=(aM v).length:=by omega
   subst hkl
   rw [List.take_length] at hok dC
   have ht:=dC.ny.1
   obtain⟨t1,t2,t3⟩:=ht.lens
   have HOF:Hid (∀ w' e,(if (applyAll (aM v) aJ).1=v then (e=.returned (.tuple #[pR sb,.int .i64 0])∧In F0 w0 w' (iH sb v::R)) else (e=.returned (.tuple #[.pointer none,.int .i64 1])∧In F0 w0 w' R))→rJ v F0 w0 R e w'):=Lib.hid (fun w' e hh=>by
    unfold rJ
    by_cases hE:(applyAll (aM v) aJ).1=v
    ·rw [if_pos hE] at hh
     rw [aab hok hE];exact⟨sb,hh.1,hh.2⟩
    ·rw [if_neg hE] at hh
     rw [aac hok hE];exact hh)
   generalize (applyAll (aM v) aJ).1=t at *
   have hge:((aM v).length:Int)≤((aM v).length:Int):=Int.le_refl _
   have hz0:(wr.drewN 1).cell? ⟨g,0,none⟩=some (.int .i64 v.gen)∧(wr.drewN 1).cell? ⟨g,1,none⟩=some (.slice A v.ax.length a)∧(wr.drewN 1).cell? ⟨g,2,none⟩=some (.slice D v.bN.length d)∧(wr.drewN 1).cell? ⟨g,3,none⟩=some (.slice F v.bU.length f):=⟨cell_of ((dC.drewN 1).block 3 rfl) rfl,cell_of ((dC.drewN 1).block 3 rfl) rfl,cell_of ((dC.drewN 1).block 3 rfl) rfl,cell_of ((dC.drewN 1).block 3 rfl) rfl⟩
   have KV:Hid (Calls Tryz.prog 34 #[pR sb] (wr.drewN 1) fun e w'=>∃ A1 a1 D1 d1 F1 f1,e=.returned (Ct t A1 a1 D1 d1 F1 f1)∧In F0 w0 w' (gG (.slice A1 t.ax.length a1) t.ax::zq (.slice D1 t.bN.length d1) t.bN::BI (.slice F1 t.bU.length f1) t.bU::iH sb t::ay 69 14 (.slice ra (aM v).length rc) (aM v).length (recsV (.slice pa v.ax.length pc) (aM v))::gG (.slice pa v.ax.length pc) v.ax::Cells g #[.int .i64 v.gen,.slice A v.ax.length a,.slice D v.bN.length d,.slice F v.bU.length f] 62::R)):=Lib.hid (BH (dC.drewN 1))
   have HL:Hid (t.ax.length≤1000000∧t.bN.length≤1000000∧t.bU.length≤1000000):=Lib.hid ⟨by omega,by omega,by omega⟩
   cases hd:decide (t=v) with
   | true=>
    have HD:=Lib.hid hd
    clear dC hlt hk hok ht t1 t2 t3 hd
    go_wp2_with fail
    go_region_held3 (fun w'=>w'.cell? ⟨g,0,none⟩=some (.int .i64 v.gen)∧w'.cell? ⟨g,1,none⟩=some (.slice A v.ax.length a)∧w'.cell? ⟨g,2,none⟩=some (.slice D v.bN.length d)∧w'.cell? ⟨g,3,none⟩=some (.slice F v.bU.length f)) (first | exact hz2 | exact hz1 | exact hz0) (first
     | (go_at_call 34;refine KV.out.mono ?_;rintro e w5 ⟨A1,a1,D1,d1,F1,f1,rfl,g5⟩;have hz1:=fJ (g5.block 6 rfl);have KS:=Lib.hid (mX (a1:=a1) (e1:=d1) (h1:=f1) (a2:=a) (e2:=d) (h2:=f) (jA 0 1 2 rfl rfl rfl) (HV.out.oZ [_,_,_,_,_,_,_]) HL.out.1 HL.out.2.1 HL.out.2.2 g5);clear g5)
     | (go_at_call 35;refine KS.out.mono ?_;rintro e w6 ⟨rfl,g6⟩;rw [HD.out];have hz2:=fJ (g6.block 6 rfl);have G6:=Lib.hid (HOF.out w6 (.returned (.tuple #[pR sb,.int .i64 0])) (by have e:=of_decide_eq_true HD.out;rw [if_pos e,← e];exact⟨rfl,g6.aI (R1:=[_,_,_,_,_,_,_]) [3] (by decide) rfl⟩));clear g6))
    go_wp2_with fail
    go_ret2
    exact G6.out
   | false=>
    have HD:=Lib.hid hd
    clear dC hlt hk hok ht t1 t2 t3 hd
    go_wp2_with fail
    go_region_held3 (fun w'=>w'.cell? ⟨g,0,none⟩=some (.int .i64 v.gen)∧w'.cell? ⟨g,1,none⟩=some (.slice A v.ax.length a)∧w'.cell? ⟨g,2,none⟩=some (.slice D v.bN.length d)∧w'.cell? ⟨g,3,none⟩=some (.slice F v.bU.length f)) (first | exact hz2 | exact hz1 | exact hz0) (first
     | (go_at_call 34;refine KV.out.mono ?_;rintro e w5 ⟨A1,a1,D1,d1,F1,f1,rfl,g5⟩;have hz1:=fJ (g5.block 6 rfl);have KS:=Lib.hid (mX (a1:=a1) (e1:=d1) (h1:=f1) (a2:=a) (e2:=d) (h2:=f) (jA 0 1 2 rfl rfl rfl) (HV.out.oZ [_,_,_,_,_,_,_]) HL.out.1 HL.out.2.1 HL.out.2.2 g5);clear g5)
     | (go_at_call 35;refine KS.out.mono ?_;rintro e w6 ⟨rfl,g6⟩;rw [HD.out];have hz2:=fJ (g6.block 6 rfl);have G6:=Lib.hid (HOF.out w6 (.returned (.tuple #[.pointer none,.int .i64 1])) (by rw [if_neg (of_decide_eq_false HD.out)];exact⟨rfl,g6.drop.drop.drop.drop.drop.drop.drop⟩));clear g6))
    go_wp2_with fail
    go_ret2
    exact G6.out
end
theorem Sn (n:Int):((sized n:Nat):Int)=max 16 (min n 1048576):=by unfold sized;omega
theorem rM (n:Int):16≤sized n∧sized n≤1048576:=by unfold sized;omega
section
variable {F0:List Nat} {w0 w:World} {R:List az} {bd lb:Nat} {d:ae} {l:bK}
theorem MI (n:Int) (w:World):Calls Tryz.prog 68 #[.int .i64 n] w fun e w'=>e=.returned (.int .i64 (sized n))∧w'=w:=by
 have HE:=Lib.hid (Sn n)
 go_enter Tryz.func68,Tryz.ntmps68
 go_wp2_with fail
 go_ret
 exact⟨by rw [HE.out];rfl,rfl⟩
theorem Oo {b:Nat} {u:Value} {T:TypeId} (h:In F0 w0 w (Cells b #[u] T::R)):In F0 w0 w (ay T 1 (.slice (some ⟨b,0,none⟩) 1 1) 1 [u]::R):=
 h.imp (A':=ay T 1 (.slice (some ⟨b,0,none⟩) 1 1) 1 [u]) 0 rfl (ay.aA _ _ _ _ _) fun F ⟨hF,hb⟩=>⟨hF,rfl,Or.inr ⟨b,1,#[u],rfl,Nat.zero_le _,hb,Nat.le_refl _,by unfold maxLen;omega,rfl,rfl⟩⟩
theorem Oq (h:In F0 w0 w (bJ bd d::R)) (ho:d.ops≤99999990) {db:Nat} (j:Nat) (hj:R[j]?=some (Cells db #[aD bd] 26)) :
  Calls Tryz.prog 61 #[.pointer (some ⟨db,0,none⟩)] w fun e w'=>e=.returned (.int .i64 (dK 1 d).2)∧In F0 w0 w' (bJ bd (dK 1 d).1::R):=by
 have c0:w.cell? ⟨db,0,none⟩=some (aD bd):=cell_of (h.block (j+1) hj) rfl
 have C:=Lib.hid (show Calls Tryz.prog 62 #[aD bd,.int .i64 1] w fun e w'=>e=.returned (.int .i64 (dK 1 d).2)∧In F0 w0 w' (bJ bd (dK 1 d).1::R) from MF h 0 rfl ho 1 (by omega))
 clear h hj
 go_enter Tryz.func61,Tryz.ntmps61
 go_wp2_with fail
 refine C.out.mono ?_
 rintro e w1 ⟨rfl,g⟩
 have G:=Lib.hid g
 clear g C
 go_wp2_with fail
 go_ret
 exact⟨rfl,G.out⟩
theorem Ot (h:In F0 w0 w (bJ bd d::R)) (ho:d.ops≤99999990) {db:Nat} (j:Nat) (hj:R[j]?=some (Cells db #[aD bd] 26)) :
  Calls Tryz.prog 63 #[.pointer (some ⟨db,0,none⟩)] w fun e w'=>e=.returned (.int .i64 (aW d (ai 1)).2)∧In F0 w0 w' (bJ bd (aW d (ai 1)).1::R):=by
 have HP:Hid (∀ w' d',In F0 w0 w' (bJ bd d'::R)→w'.cell? ⟨db,0,none⟩=some (aD bd)):=Lib.hid fun w' d' h'=>cell_of (h'.block (j+1) hj) rfl
 have HW:=Lib.hid (HP.out w d h)
 have C1:=Lib.hid (fun n=>(show Calls Tryz.prog 65 #[.int .i64 1] (w.drewN n) fun e w'=>e=.returned (.string (ai 1))∧In F0 w0 w' (bJ bd d::R) from nU (h.drewN n) 1 (by omega)))
 have C2:=Lib.hid (fun w' (h':In F0 w0 w' (bJ bd d::R))=>oU h' 0 rfl (by omega) (ai 1) (df _))
 clear h hj
 generalize ai 1=nm at *
 go_enter Tryz.func63,Tryz.ntmps63
 go_wp2_with fail
 go_region_held3 (fun w'=>w'.cell? ⟨db,0,none⟩=some (aD bd)) (first | exact HW.out | exact hc2 | exact hc1) (first
  | (go_at_call 65;refine (C1.out 1).mono ?_;rintro e w1 ⟨rfl,g1⟩;have hc1:=HP.out w1 _ g1;have K2:=Lib.hid (C2.out w1 g1);clear g1)
  | (go_at_call 64;refine K2.out.mono ?_;rintro e w2 ⟨rfl,g2⟩;have hc2:=HP.out w2 _ g2;have G:=Lib.hid g2;clear g2))
 go_wp2_with fail
 go_ret
 exact⟨rfl,G.out⟩
theorem Ou (m:dw) {A:Option Addr} {c:Nat} (h:In F0 w0 w (bJ bd d::lZ A c m.aa::R)) (ho:d.ops≤99999990) (hn:m.aa.length≤1000000000) {db mb:Nat} (j k:Nat) (hj:R[j]?=some (Cells db #[aD bd] 26)) (hk:R[k]?=some (Cells mb #[.int .i64 m.aj,.int .i64 m.next,.slice A m.aa.length c] 111)) :
  Calls Tryz.prog 66 #[.pointer (some ⟨db,0,none⟩),.pointer (some ⟨mb,0,none⟩)] w fun e w'=>e=.returned (.int .i64 (aK m d).2.2)∧In F0 w0 w' (bJ bd (aK m d).1::lZ A c m.aa::R):=by
 have c0:w.cell? ⟨db,0,none⟩=some (aD bd):=cell_of (h.block (j+2) hj) rfl
 have c1:w.cell? ⟨mb,0,none⟩=some (.int .i64 m.aj):=cell_of (h.block (k+2) hk) rfl
 have c2:w.cell? ⟨mb,1,none⟩=some (.int .i64 m.next):=cell_of (h.block (k+2) hk) rfl
 have c3:w.cell? ⟨mb,2,none⟩=some (.slice A m.aa.length c):=cell_of (h.block (k+2) hk) rfl
 have C:=Lib.hid (BK h 0 rfl ho m (A:=A) (c:=c) (fun w' h'=>by obtain⟨F',r'⟩:=h'.get 1 rfl;exact r'.all) hn)
 unfold iM at C
 clear h hj hk
 go_enter Tryz.func66,Tryz.ntmps66
 go_wp2_with fail
 refine C.out.mono ?_
 rintro e w1 ⟨rfl,g⟩
 have G:=Lib.hid g
 have HX:Hid (∃ x,(aK m d).2.2=x):=Lib.hid ⟨_,rfl⟩
 clear g C
 go_wp2_with fail
 go_ret
 exact⟨rfl,G.out⟩
def lY (m:dw):List (ae→ae×Int):=[dK 1,fun d=>aW d (ai 1),fun d=>((aK m d).1,(aK m d).2.2)]
theorem Lh (m:dw) {fb db mb:Nat} {A:Option Addr} {c:Nat} (ho:d.ops≤99999000) (hn:m.aa.length≤1000000000)
  (fs:List (FuncId×Array Value)) (hfs:fs=[(61,#[.pointer (some ⟨db,0,none⟩)]),(63,#[.pointer (some ⟨db,0,none⟩)]),(66,#[.pointer (some ⟨db,0,none⟩),.pointer (some ⟨mb,0,none⟩)])])
  (h:In F0 w0 w (Cells fb (fs.map ED).toArray 48::bJ bd d::lZ A c m.aa::Cells mb #[.int .i64 m.aj,.int .i64 m.next,.slice A m.aa.length c] 111::Cells db #[aD bd] 26::R)) :
  Calls Tryz.prog 60 #[.slice (some ⟨fb,0,none⟩) 3 3] w fun e w'=>e=.returned (.int .i64 (bM (lY m) d).2)∧In F0 w0 w' (bJ bd (bM (lY m) d).1::lZ A c m.aa::Cells mb #[.int .i64 m.aj,.int .i64 m.next,.slice A m.aa.length c] 111::Cells db #[aD bd] 26::R):=by
 have lV:∀ args w',(callFunc 61 args).run Tryz.prog w'=.ok (.enter 61 args) w':=enters_of Tryz.func61 (by kernel_rfl) rfl
 have lW:∀ args w',(callFunc 63 args).run Tryz.prog w'=.ok (.enter 63 args) w':=enters_of Tryz.func63 (by kernel_rfl) rfl
 have uE:∀ args w',(callFunc 66 args).run Tryz.prog w'=.ok (.enter 66 args) w':=enters_of Tryz.func66 (by kernel_rfl) rfl
 have hlen:fs.length=3:=by rw [hfs];rfl
 have key:=AQ (F0:=F0) (w0:=w0) (w:=w) (fun k (s:ae)=>s.ops≤99999000+10 * k)
  (fun s=>bJ bd s::lZ A c m.aa::Cells mb #[.int .i64 m.aj,.int .i64 m.next,.slice A m.aa.length c] 111::Cells db #[aD bd] 26::R) fb 48 (lY m) fs (by rw [hlen];rfl) (by omega) d 3
  (by omega)
  (fun k f hf s hI=>by
   rcases k with _ | _ | _ | k
   ·cases hf;have:=rE 1 s;omega
   ·cases hf;have:=fZ s (ai 1);show (aW s (ai 1)).1.ops≤_;omega
   ·cases hf;have:=oW m s;show (aK m s).1.ops≤_;omega
   ·simp [lY] at hf)
  (fun f hf=>by
   rw [hfs] at hf
   simp only [List.mem_cons,List.not_mem_nil,or_false] at hf
   rcases hf with rfl | rfl | rfl
   ·exact lV
   ·exact lW
   ·exact uE)
  (fun k f g hf hg w' s hI h'=>by
   rw [hfs] at hf
   rcases k with _ | _ | _ | k
   ·cases hf;cases hg
    have:=Oq (h'.aI (R1:=[_,_]) [1,0] (by decide) rfl) (by omega) (db:=db) 3 rfl
    exact this.mono fun e w'' ⟨he,hw⟩=>⟨he,hw.aI (R1:=[_,_]) [1,0] (by decide) rfl⟩
   ·cases hf;cases hg
    have:=Ot (h'.aI (R1:=[_,_]) [1,0] (by decide) rfl) (by omega) (db:=db) 3 rfl
    exact this.mono fun e w'' ⟨he,hw⟩=>⟨he,hw.aI (R1:=[_,_]) [1,0] (by decide) rfl⟩
   ·cases hf;cases hg
    have:=Ou m (h'.aI (R1:=[_,_,_]) [1,2,0] (by decide) rfl) (by omega) hn (db:=db) (mb:=mb) 2 1 rfl rfl
    exact this.mono fun e w'' ⟨he,hw⟩=>⟨he,hw.aI (R1:=[_,_,_]) [2,0,1] (by decide) rfl⟩
   ·simp at hf) h
 rw [hlen] at key
 exact key.mono fun e w' ⟨he,hw⟩=>⟨he,hw.drop⟩
def mG (bd:Nat) (r:ae×Option bK×Int) (F0:List Nat) (w0:World) (R:List az) (e:Ending) (w':World):Prop:=
 match r.2.1 with
 | none=>e=.returned (.tuple #[.pointer none,.int .i64 r.2.2])∧In F0 w0 w' (bJ bd r.1::R)
 | some l=>∃ lb,e=.returned (.tuple #[aD lb,.int .i64 r.2.2])∧In F0 w0 w' (eB lb bd l::bJ bd r.1::R)
theorem Li (v size:Int) (d:ae) (h1:¬ (v < 1∨3 < v)) (h2:(bQ d.now bL).isSome=false) :
  cu v size d=if (bM (lY (firstM v.toNat)) d).2≠0 then ((bM (lY (firstM v.toNat)) d).1,none,(bM (lY (firstM v.toNat)) d).2) else ((bM (lY (firstM v.toNat)) d).1,some ⟨sized size,firstM v.toNat,false⟩,0):=by
 unfold cu;rw [if_neg h1,if_neg (by rw [h2];simp)];rfl
theorem Sq (h:In F0 w0 w (bJ bd d::R)) (ho:d.ops≤99999000) (v size:Int) :
  Calls Tryz.prog 17 #[aD bd,.int .i64 v,.int .i64 size] w (mG bd (cu v size d) F0 w0 R):=by
 have h1:=h.cells #[aD bd] 26
 have c0:(w.alloc (.cells #[aD bd] 26)).cell? ⟨w.heap.size,0,none⟩=some (aD bd):=cell_of (h1.block 0 rfl) rfl
 have jJ:Hid (∀ w' x,In F0 w0 w' (bJ bd d::R)→cu v size d=(d,none,x)→mG bd (cu v size d) F0 w0 R (.returned (.tuple #[.pointer none,.int .i64 x])) w'):=Lib.hid fun w' x h' hx=>by
  rw [hx];exact⟨rfl,h'⟩
 by_cases hv:v < 1∨3 < v
 ·have HE:=Lib.hid (jJ.out _ 10 h1.drop (by unfold cu;rw [if_pos hv]))
  clear h h1 jJ
  by_cases hv1:v < 1
  ·have q1:decide (v < 1)=true:=by simpa using hv1
   clear hv hv1
   go_enter Tryz.func17,Tryz.ntmps17
   go_wp2_with fail
   go_ret2
   exact HE.out
  ·have q1:decide (v < 1)=false:=by simpa using hv1
   have q2:decide (3 < v)=true:=by simp;omega
   clear hv hv1
   go_enter Tryz.func17,Tryz.ntmps17
   go_wp2_with fail
   go_ret2
   exact HE.out
 ·obtain⟨n,rfl⟩:∃ n:Nat,v=(n:Int):=⟨v.toNat,by omega⟩
  have q1:decide ((n:Int) < 1)=false:=by simp;omega
  have q2:decide ((3:Int) < (n:Int))=false:=by simp;omega
  have C1:=Lib.hid (ME h1 1 rfl bL oV)
  cases hq:(bQ d.now bL).isSome with
  | true=>
   have HE:=Lib.hid (fun w' (h':In F0 w0 w' (Cells w.heap.size #[aD bd] 26::bJ bd d::R))=>jJ.out w' 12 h'.drop (by unfold cu;rw [if_neg hv,if_pos hq]))
   rw [hq] at C1
   clear h h1 jJ hv hq
   go_enter Tryz.func17,Tryz.ntmps17
   go_wp2_with fail
   refine C1.out.mono ?_
   rintro e w1 ⟨rfl,g1⟩
   have HF:=Lib.hid (HE.out w1 g1)
   clear g1 C1 HE
   go_wp2_with fail
   go_ret2
   exact HF.out
  | false=>
   have HE:=Lib.hid (Li n size d hv hq)
   rw [hq] at C1
   clear h h1 jJ hv hq
   go_enter Tryz.func17,Tryz.ntmps17
   go_wp2_with fail
   refine C1.out.mono ?_
   rintro e w1 ⟨rfl,g1⟩
   clear C1
   have g2:=Oo (g1.cells #[.int .i64 1] 3)
   have g3:=g2.cells #[.int .i64 n,.int .i64 2,.slice (some ⟨w1.heap.size,0,none⟩) 1 1] 111
   have g4:=g3.cells #[.func (.func 61) #[] #[.pointer (some ⟨w.heap.size,0,none⟩)],.func (.func 63) #[] #[.pointer (some ⟨w.heap.size,0,none⟩)],.func (.func 66) #[] #[.pointer (some ⟨w.heap.size,0,none⟩),.pointer (some ⟨w1.heap.size+1,0,none⟩)]] 48
   simp only [World.size_alloc] at g4
   have K:=Lh (R:=R) (firstM n) (db:=w.heap.size) (mb:=w1.heap.size+1) (fb:=w1.heap.size+1+1) (A:=some ⟨w1.heap.size,0,none⟩) (c:=1) ho (by simp [firstM]) _ rfl (g4.aI (R1:=[_,_,_,_,_]) [0,4,2,1,3] (by decide) rfl)
   simp only [Int.toNat_natCast] at HE
   generalize bM (lY (firstM n)) d=r at *
   have KH:=Lib.hid K
   clear K g1 g2 g3 g4 c0
   by_cases hz:r.2=0
   ·have HC:Hid (cu n size d=(r.1,some ⟨sized size,firstM n,false⟩,0)):=Lib.hid (by rw [HE.out,if_neg (by simpa using hz)])
    have HZ:=Lib.hid hz
    clear hz HE
    go_wp2_with fail
    refine KH.out.mono ?_
    rintro e w2 ⟨rfl,g5⟩
    rw [HZ.out]
    have HS:Hid (w2.cell? ⟨w.heap.size,0,none⟩=some (aD bd)∧w2.cell? ⟨w1.heap.size+1,0,none⟩=some (.int .i64 n)∧w2.cell? ⟨w1.heap.size+1,1,none⟩=some (.int .i64 2)∧w2.cell? ⟨w1.heap.size+1,2,none⟩=some (.slice (some ⟨w1.heap.size,0,none⟩) 1 1)):=Lib.hid
     ⟨cell_of (g5.block 3 rfl) rfl,cell_of (g5.block 2 rfl) rfl,cell_of (g5.block 2 rfl) rfl,cell_of (g5.block 2 rfl) rfl⟩
    have g6:=(g5.drewN 1).cells (xc bd ⟨sized size,firstM n,false⟩ (.slice (some ⟨w1.heap.size,0,none⟩) 1 1)) 120
    have g7:In F0 w0 ((w2.drewN 1).alloc (.cells (xc bd ⟨sized size,firstM n,false⟩ (.slice (some ⟨w1.heap.size,0,none⟩) 1 1)) 120)) (eB w2.heap.size bd ⟨sized size,firstM n,false⟩::bJ bd r.1::R):=In.nE (l':=⟨sized size,firstM n,false⟩) (v:=.slice (some ⟨w1.heap.size,0,none⟩) 1 1) (g6.aI (R1:=[_,_,_,_,_]) [2,0,1] (by decide) rfl)
    have HF:Hid (mG bd (cu n size d) F0 w0 R (.returned (.tuple #[aD w2.heap.size,.int .i64 0])) _):=Lib.hid (by
     rw [HC.out]
     exact⟨_,rfl,g7⟩)
    clear g5 g6 g7 KH
    go_wp2_with fail
    obtain⟨s0,s1,s2,s3⟩:=HS.out
    go_region_held3 (fun w'=>w'.cell? ⟨w.heap.size,0,none⟩=some (aD bd)∧w'.cell? ⟨w1.heap.size+1,0,none⟩=some (.int .i64 n)∧w'.cell? ⟨w1.heap.size+1,1,none⟩=some (.int .i64 2)∧w'.cell? ⟨w1.heap.size+1,2,none⟩=some (.slice (some ⟨w1.heap.size,0,none⟩) 1 1))
     (first | with_reducible exact HS.out | ((refine⟨?_,?_,?_,?_⟩ <;> repeat (first | with_reducible exact s0 | with_reducible exact s1 | with_reducible exact s2 | with_reducible exact s3 | rw [World.cell?_drew] | with_reducible refine mY ?_));done) | go_keep)
     (first | (go_at_call 68;refine (MI size _).mono ?_;rintro e w3 ⟨rfl,rfl⟩))
    go_wp2_with fail
    go_ret2
    exact HF.out
   ·have HC:Hid (cu n size d=(r.1,none,r.2)):=Lib.hid (by rw [HE.out,if_pos (by simpa using hz)])
    have q:(r.2 != 0)=true:=by rw [bne_iff_ne];exact hz
    clear hz HE
    go_wp2_with fail
    refine KH.out.mono ?_
    rintro e w2 ⟨rfl,g5⟩
    have HF:Hid (mG bd (cu n size d) F0 w0 R (.returned (.tuple #[.pointer none,.int .i64 r.2])) w2):=Lib.hid (by
     rw [HC.out]
     exact⟨rfl,g5.aI (R1:=[_,_,_,_]) [0] (by decide) rfl⟩)
    clear g5 KH
    go_wp2_with fail
    go_ret2
    exact HF.out
end
end Go.Proofs.YtogclkhpbjfadaaGreat
