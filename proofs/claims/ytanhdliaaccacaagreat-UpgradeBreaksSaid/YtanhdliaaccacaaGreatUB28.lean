/- .. -/
import Derived.Test.YtanhdliaaccacaaGreatUB12
import Derived.Test.YtanhdliaaccacaaGreatUB25
import Derived.Test.YtanhdliaaccacaaGreatUB27
namespace Go.Proofs.YtanhdliaaccacaaGreat
open Go.RowKit
set_option linter.unusedVariables false
set_option maxHeartbeats 64000000
set_option maxRecDepth 100000
abbrev IZ (lb dA:Nat) (g:Int) (bv dv fv:Value):Array Value:=#[aF lb,pR dA,.int .i64 g,bv,dv,fv]
def VE (sb lb dA:Nat) (bv dv fv:Value) (s:eT):List ax:=[Cells sb (IZ lb dA s.gen bv dv fv) 96,gq bv s.au,xA dv s.bL,FM fv s.bS]
theorem VE.aB {sb lb dA:Nat} {bv dv fv:Value} {s:eT}:∀ A∈VE sb lb dA bv dv fv s,bD A:=by
 intro A hA
 simp only [VE,List.mem_cons,List.not_mem_nil,or_false] at hA
 rcases hA with rfl | rfl | rfl | rfl
 ·exact Cells.aB _ _ _
 ·exact ay.aB _ _ _ _ _
 ·exact ay.aB _ _ _ _ _
 ·exact ay.aB _ _ _ _ _
def VF (sb lb dA:Nat) (s:eT):ax:=fun w F=>∃ bv dv fv,Star (VE sb lb dA bv dv fv s) w F
theorem VF.aB (sb lb dA:Nat) (s:eT):bD (VF sb lb dA s):=by
 refine⟨?_,?_⟩
 ·rintro w w' F ⟨bv,dv,fv,h2⟩ hk;exact⟨bv,dv,fv,(bD.star VE.aB).keep h2 hk⟩
 ·rintro w F ⟨bv,dv,fv,h2⟩;exact (bD.star VE.aB).lt h2
abbrev vQ (sb lb bd dA:Nat) (s:SD) (R:List ax):List ax:=VF sb lb dA s.2.sure::eH lb bd s.2.l::bJ bd s.1::iF dA s.2.st::R
section
variable {F0:List Nat} {w0 w:World} {R:List ax} {sb lb dA:Nat} {s:eT}
theorem In.yu (h:In F0 w0 w (VF sb lb dA s::R)):∃ A a D d F f,In F0 w0 w (Cells sb (IZ lb dA s.gen (.slice A s.au.length a) (.slice D s.bL.length d) (.slice F s.bS.length f)) 96::gq (.slice A s.au.length a) s.au::xA (.slice D s.bL.length d) s.bL::FM (.slice F s.bS.length f) s.bS::R):=by
 obtain⟨F,⟨F1,F2,⟨bv,dv,fv,h1⟩,h2,h3,rfl⟩,hF⟩:=h.star
 have h4:In F0 w0 w (VE sb lb dA bv dv fv s++R):=by
  refine⟨fun B hB=>?_,⟨_,vL h1 h2 h3,hF⟩,h.mod⟩
  rcases List.mem_append.1 hB with hB | hB
  ·exact VE.aB _ hB
  ·exact h.aB B (List.mem_cons_of_mem _ hB)
 obtain⟨Fv,rv⟩:=h4.get 1 rfl
 obtain⟨A,a,rfl,-,-,-⟩:=ay.shape rv
 obtain⟨Fu,ru⟩:=h4.get 2 rfl
 obtain⟨D,d,rfl,-,-,-⟩:=ay.shape ru
 obtain⟨Ft,rt⟩:=h4.get 3 rfl
 obtain⟨G,f,rfl,-,-,-⟩:=ay.shape rt
 exact⟨A,a,D,d,G,f,h4⟩
theorem In.lY {bv dv fv:Value} (h:In F0 w0 w (Cells sb (IZ lb dA s.gen bv dv fv) 96::gq bv s.au::xA dv s.bL::FM fv s.bS::R)):In F0 w0 w (VF sb lb dA s::R):=
 (In.join (A1:=VE sb lb dA bv dv fv s) (R:=R) h).imp (A':=VF sb lb dA s) 0 rfl (VF.aB _ _ _ _) (fun F hF=>⟨bv,dv,fv,hF⟩)
end
theorem BO {l:List Rec} {k:Nat} {x:Rec} {s:eT} (hx:l[k]?=some x) (h:(applyAll (l.take k) s).2=0) (h2:(aX (applyAll (l.take k) s).1 x).2=0):applyAll (l.take (k+1)) s=((aX (applyAll (l.take k) s).1 x).1,0):=by
 rw [List.take_add_one,hx,Option.toList_some,lG,if_neg (by simp [h])]
 show (if (aX (applyAll (l.take k) s).1 x).2≠0 then aX (applyAll (l.take k) s).1 x else applyAll [] (aX (applyAll (l.take k) s).1 x).1)=_
 rw [if_neg (by simp [h2])];rfl
theorem FR {l:List Rec} {k:Nat} {x:Rec} {s:eT} (hx:l[k]?=some x) (h:(applyAll (l.take k) s).2=0) (h2:(aX (applyAll (l.take k) s).1 x).2≠0):applyAll l s=aX (applyAll (l.take k) s).1 x:=by
 obtain⟨hk,hx'⟩:=List.getElem?_eq_some_iff.1 hx
 conv=>lhs;rw [← List.take_append_drop k l]
 rw [lG,if_neg (by simp [h]),List.drop_eq_getElem_cons hk,hx']
 show (if (aX (applyAll (l.take k) s).1 x).2≠0 then aX (applyAll (l.take k) s).1 x else _)=_
 rw [if_pos h2]
theorem zS {v:eT} {k:Nat} {x:Rec} (hx:(aS v)[k]?=some x):(k=0∧x.au=v.au)∨(k≠0∧x.au=[]):=by
 cases k with
 | zero=>simp [aS] at hx;subst hx;exact Or.inl ⟨rfl,rfl⟩
 | succ k=>
  refine Or.inr ⟨by omega,?_⟩
  have hm:x∈v.bL.map iV++v.bS.map kT:=by
   simp only [aS,List.getElem?_cons_succ] at hx
   exact List.mem_of_getElem? hx
  rcases List.mem_append.1 hm with hm | hm
  ·obtain⟨d,_,rfl⟩:=List.mem_map.1 hm;rfl
  ·obtain⟨d,_,rfl⟩:=List.mem_map.1 hm;rfl
theorem Yr {v:eT} (h:(applyAll (aS v) aH).2≠0):Ck v=(none,(applyAll (aS v) aH).2):=by unfold Ck;rw [if_pos h]
theorem aam {v:eT} (h:(applyAll (aS v) aH).2=0) (e:(applyAll (aS v) aH).1=v):Ck v=(some v,0):=by unfold Ck;rw [if_neg (by simp [h]),if_pos e]
theorem aan {v:eT} (h:(applyAll (aS v) aH).2=0) (e:(applyAll (aS v) aH).1≠v):Ck v=(none,1):=by unfold Ck;rw [if_neg (by simp [h]),if_neg e]
section
variable {F0:List Nat} {w0 w:World} {R:List ax}
theorem xm.rV {v:eT} {A D G:Option Addr}:∀ (X:List ax),xm F0 w0 R v A D G→xm F0 w0 (X++R) v A D G
 | [],h=>h
 | Y::X,h=>(xm.rV X h).more Y
theorem FT {W:World} {g:Nat} {a b c d:Value} {T:TypeId} (h:W.heap[g]?=some (.cells #[a,b,c,d] T (0,0))):W.cell? ⟨g,0,none⟩=some a∧W.cell? ⟨g,1,none⟩=some b∧W.cell? ⟨g,2,none⟩=some c∧W.cell? ⟨g,3,none⟩=some d:=⟨cell_of h rfl,cell_of h rfl,cell_of h rfl,cell_of h rfl⟩
def Sw (v:eT) (g sb:Nat) (C:Array Value) (rv pv:Value) (F0:List Nat) (w0:World) (R:List ax) (i:Value) (wr:World):Prop:=
 ∃ k:Nat,k≤(aS v).length∧i=.int .i64 k∧(applyAll ((aS v).take k) aH).2=0∧In F0 w0 wr (iF sb (applyAll ((aS v).take k) aH).1::ay 59 14 rv (aS v).length (recsV pv (aS v))::gq pv v.au::Cells g C 26::R)
def yw (v:eT) (F0:List Nat) (w0:World) (R:List ax) (e:Ending) (w':World):Prop:=
 match (Ck v).1 with
 | some t=>∃ sb,e=.returned (.tuple #[pR sb,.int .i64 0])∧In F0 w0 w' (iF sb v::R)
 | none=>e=.returned (.tuple #[.pointer none,.int .i64 (Ck v).2])∧In F0 w0 w' R
theorem Yt {v:eT} {A D F:Option Addr} {a d f:Nat} (hv:xm F0 w0 R v A D F) (hn:A=none→a=0) (lb:v.au.length≤1000) (ld:v.bL.length≤1000) (lf:v.bS.length≤1000) (hw:∀ r∈aS v,nS r) (h:In F0 w0 w R):Calls Tryz.prog 41 #[zx v A a D d F f] w (yw v F0 w0 R):=by
 obtain⟨w1,hw1⟩:∃ w1,w1=w.alloc (.cells #[.int .i64 v.gen,.slice A v.au.length a,.slice D v.bL.length d,.slice F v.bS.length f] 26):=⟨_,rfl⟩
 have h1:=h.cells #[.int .i64 v.gen,.slice A v.au.length a,.slice D v.bL.length d,.slice F v.bS.length f] 26
 rw [← hw1] at h1
 have K1:=Lib.hid (zP h1)
 have HW:=Lib.hid hw1
 have HV:=Lib.hid hv
 have Pw:∀ (fn:Fn) (first cap:Array Value) (w:World),(Instr.makeFunc fn first cap).run Tryz.prog w=.ok (.func fn first cap) w:=fun _ _ _ _=>rfl
 have hrl:(aS v).length≤3000:=by simp [aS];omega
 clear h h1 hw1 hv
 go_enter Tryz.func41,Tryz.ntmps41
 go_wp2_with fail
 rw [← HW.out]
 clear HW
 generalize w.heap.size=g at *
 refine K1.out.mono ?_
 rintro e w2 ⟨sb,rfl,g2⟩
 have d0:w2.cell? ⟨g,0,none⟩=some (.int .i64 v.gen):=cell_of (g2.block 1 rfl) rfl
 have d1:w2.cell? ⟨g,1,none⟩=some (.slice A v.au.length a):=cell_of (g2.block 1 rfl) rfl
 have d2:w2.cell? ⟨g,2,none⟩=some (.slice D v.bL.length d):=cell_of (g2.block 1 rfl) rfl
 have d3:w2.cell? ⟨g,3,none⟩=some (.slice F v.bS.length f):=cell_of (g2.block 1 rfl) rfl
 have K2:=Lib.hid (IP (a:=a) (d:=d) (f:=f) (HV.out.rV [iF sb aH,Cells g #[.int .i64 v.gen,.slice A v.au.length a,.slice D v.bL.length d,.slice F v.bS.length f] 26]) hn lb ld lf g2)
 clear g2 K1
 go_wp2_with fail
 refine K2.out.mono ?_
 rintro e w3 ⟨rv,pv,rfl,g3⟩
 obtain⟨Fr,rr⟩:=g3.get 0 rfl
 obtain⟨ra,rc,rfl,-,-,-⟩:=ay.shape rr
 obtain⟨Fp,rp⟩:=g3.get 1 rfl
 obtain⟨pa,pc,rfl,-,-,-⟩:=ay.shape rp
 have hnp:pa=none→pc=0:=fun e=>ay.Jz rp e
 have HR:Hid (Sw v g sb #[.int .i64 v.gen,.slice A v.au.length a,.slice D v.bL.length d,.slice F v.bS.length f] (.slice ra (aS v).length rc) (.slice pa v.au.length pc) F0 w0 R (.int .i64 0) w3):=Lib.hid ⟨0,Nat.zero_le _,rfl,rfl,g3.aL (R1:=[_,_,_]) [2,0,1] (by decide) rfl⟩
 have HN:=Lib.hid hnp
 clear g3 K2 rr rp hn hnp d0 d1 d2 d3
 go_wp2_with fail
 go_loopw [15] (Sw v g sb #[.int .i64 v.gen,.slice A v.au.length a,.slice D v.bL.length d,.slice F v.bS.length f] (.slice ra (aS v).length rc) (.slice pa v.au.length pc) F0 w0 R) (fun k _=>(aS v).length - (intOf k).toNat)
 case atStart=>exact HR.out
 case round=>
  obtain⟨k,hk,rfl,hok,dh⟩:=hrel
  clear HR
  by_cases hlt:k < (aS v).length
  ·obtain⟨x,hx⟩:∃ x,(aS v)[k]?=some x:=⟨(aS v)[k],List.getElem?_eq_getElem hlt⟩
   obtain⟨Fr,rr⟩:=dh.get 1 rfl
   obtain⟨gr,o,rfl,sc⟩:=rr.all.plain (by omega) (by decide)
   obtain⟨Ax,cx,hpx,hnx,hbx⟩:∃ Ax cx,(if k=0 then (Value.slice pa v.au.length pc) else .slice none 0 0)=.slice Ax x.au.length cx∧(Ax=none→cx=0)∧gZ F0 w0 (ay 59 14 (.slice (some ⟨gr,o,none⟩) (aS v).length rc) (aS v).length (recsV (.slice pa v.au.length pc) (aS v))::gq (.slice pa v.au.length pc) v.au::Cells g #[.int .i64 v.gen,.slice A v.au.length a,.slice D v.bL.length d,.slice F v.bS.length f] 26::R) Ax x.au:=by
    rcases zS hx with ⟨rfl,e⟩|⟨h0,e⟩
    ·refine⟨pa,pc,by rw [if_pos rfl,e],HN.out,?_⟩
     rw [e]
     exact fun w' h'=>by obtain⟨F',r'⟩:=h'.get 1 rfl;exact r'.all
    ·refine⟨none,0,by rw [if_neg h0,e];rfl,fun _=>rfl,?_⟩
     rw [e]
     exact fun w' h'=>Src.nil _ _ _
   have c0:wr.cell? ⟨gr,o+k * 14,none⟩=some (.int .i64 x.kind):=by
    have:=sc (k * 14+0) _ (by rw [dH hx 0 (by decide),hpx];rfl)
    rwa [← Nat.add_assoc] at this
   have c1:wr.cell? ⟨gr,o+k * 14+1,none⟩=some (.int .u32 x.fl.t.src):=by
    have:=sc (k * 14+1) _ (by rw [dH hx 1 (by decide),hpx];rfl)
    rwa [← Nat.add_assoc] at this
   have c2:wr.cell? ⟨gr,o+k * 14+2,none⟩=some (.int .u32 x.fl.t.dst):=by
    have:=sc (k * 14+2) _ (by rw [dH hx 2 (by decide),hpx];rfl)
    rwa [← Nat.add_assoc] at this
   have c3:wr.cell? ⟨gr,o+k * 14+3,none⟩=some (.int .i64 x.fl.t.proto):=by
    have:=sc (k * 14+3) _ (by rw [dH hx 3 (by decide),hpx];rfl)
    rwa [← Nat.add_assoc] at this
   have c4:wr.cell? ⟨gr,o+k * 14+4,none⟩=some (.int .i64 x.fl.t.ag):=by
    have:=sc (k * 14+4) _ (by rw [dH hx 4 (by decide),hpx];rfl)
    rwa [← Nat.add_assoc] at this
   have c5:wr.cell? ⟨gr,o+k * 14+5,none⟩=some (.int .i64 x.fl.t.ah):=by
    have:=sc (k * 14+5) _ (by rw [dH hx 5 (by decide),hpx];rfl)
    rwa [← Nat.add_assoc] at this
   have c6:wr.cell? ⟨gr,o+k * 14+6,none⟩=some (.int .i64 x.fl.bk):=by
    have:=sc (k * 14+6) _ (by rw [dH hx 6 (by decide),hpx];rfl)
    rwa [← Nat.add_assoc] at this
   have c7:wr.cell? ⟨gr,o+k * 14+7,none⟩=some (.int .i64 x.fl.gen):=by
    have:=sc (k * 14+7) _ (by rw [dH hx 7 (by decide),hpx];rfl)
    rwa [← Nat.add_assoc] at this
   have c8:wr.cell? ⟨gr,o+k * 14+8,none⟩=some (.int .i64 x.fl.seen):=by
    have:=sc (k * 14+8) _ (by rw [dH hx 8 (by decide),hpx];rfl)
    rwa [← Nat.add_assoc] at this
   have c9:wr.cell? ⟨gr,o+k * 14+9,none⟩=some (.int .i64 x.gen):=by
    have:=sc (k * 14+9) _ (by rw [dH hx 9 (by decide),hpx];rfl)
    rwa [← Nat.add_assoc] at this
   have c10:wr.cell? ⟨gr,o+k * 14+10,none⟩=some (.slice Ax x.au.length cx):=by
    have:=sc (k * 14+10) _ (by rw [dH hx 10 (by decide),hpx];rfl)
    rwa [← Nat.add_assoc] at this
   have c11:wr.cell? ⟨gr,o+k * 14+11,none⟩=some (.int .i64 x.bk):=by
    have:=sc (k * 14+11) _ (by rw [dH hx 11 (by decide),hpx];rfl)
    rwa [← Nat.add_assoc] at this
   have c12:wr.cell? ⟨gr,o+k * 14+12,none⟩=some (.int .i64 x.till):=by
    have:=sc (k * 14+12) _ (by rw [dH hx 12 (by decide),hpx];rfl)
    rwa [← Nat.add_assoc] at this
   have c13:wr.cell? ⟨gr,o+k * 14+13,none⟩=some (.int .i64 x.count):=by
    have:=sc (k * 14+13) _ (by rw [dH hx 13 (by decide),hpx];rfl)
    rwa [← Nat.add_assoc] at this
   have hlt':(k:Int) < ((aS v).length:Int):=Int.ofNat_lt.2 hlt
   have hw2:wrap64 ((k:Int)+1)=(k:Int)+1:=by unfold wrap64;omega
   have hbl:x.au.length≤1000000:=by
    rcases zS hx with ⟨_,e⟩|⟨_,e⟩ <;> rw [e]
    ·omega
    ·exact Nat.zero_le _
   have KA:=Lib.hid (xk (r:=x) hbx hnx hbl (hw x (List.mem_of_getElem? hx)) (dh.cells #[.int .i64 x.kind,.int .u32 x.fl.t.src,.int .u32 x.fl.t.dst,.int .i64 x.fl.t.proto,.int .i64 x.fl.t.ag,.int .i64 x.fl.t.ah,.int .i64 x.fl.bk,.int .i64 x.fl.gen,.int .i64 x.fl.seen,.int .i64 x.gen,.slice Ax x.au.length cx,.int .i64 x.bk,.int .i64 x.till,.int .i64 x.count] 59).drop)
   have HX:=Lib.hid hx
   have oI:=Lib.hid hok
   have HM:=Lib.hid (dS hlt')
   clear dh hx hk rr sc hpx hnx hbx hbl hok
   go_wp2_with fail
   refine KA.out.mono ?_
   rintro e w4 ⟨rfl,g4⟩
   clear KA
   by_cases he:(aX (applyAll ((aS v).take k) aH).1 x).2=0
   ·rw [he]
    have HR:Hid (Sw v g sb #[.int .i64 v.gen,.slice A v.au.length a,.slice D v.bL.length d,.slice F v.bS.length f] (.slice (some ⟨gr,o,none⟩) (aS v).length rc) (.slice pa v.au.length pc) F0 w0 R (.int .i64 ((k:Int)+1)) w4):=Lib.hid ⟨k+1,(List.getElem?_eq_some_iff.1 HX.out).1,by rw [Int.natCast_add];rfl,by rw [BO HX.out oI.out he],by rw [BO HX.out oI.out he];exact g4⟩
    clear g4 he
    go_wp2_with fail
    go_roundw
    case rel=>(try rw [hw2]);exact HR.out
    case measure=>(try rw [hw2]);exact HM.out
   ·have q:((aX (applyAll ((aS v).take k) aH).1 x).2 != 0)=true:=by rw [bne_iff_ne];exact he
    have G:Hid (yw v F0 w0 R (.returned (.tuple #[.pointer none,.int .i64 (aX (applyAll ((aS v).take k) aH).1 x).2])) w4):=Lib.hid (by
     unfold yw
     rw [Yr (by rw [FR HX.out oI.out he];exact he),FR HX.out oI.out he]
     exact⟨rfl,g4.drop.drop.drop.drop⟩)
    clear g4 he HM HX oI
    generalize (aX (applyAll ((aS v).take k) aH).1 x).2=er at *
    go_wp2_with fail
    go_ret2
    exact G.out
  ·have hkl:k=(aS v).length:=by omega
   subst hkl
   rw [List.take_length] at hok dh
   have ht:=dh.nu.1
   obtain⟨t1,t2,t3⟩:=ht.lens
   have HOF:Hid (∀ w' e,(if (applyAll (aS v) aH).1=v then (e=.returned (.tuple #[pR sb,.int .i64 0])∧In F0 w0 w' (iF sb v::R)) else (e=.returned (.tuple #[.pointer none,.int .i64 1])∧In F0 w0 w' R))→yw v F0 w0 R e w'):=Lib.hid (fun w' e hh=>by
    unfold yw
    by_cases hE:(applyAll (aS v) aH).1=v
    ·rw [if_pos hE] at hh
     rw [aam hok hE];exact⟨sb,hh.1,hh.2⟩
    ·rw [if_neg hE] at hh
     rw [aan hok hE];exact hh)
   generalize (applyAll (aS v) aH).1=t at *
   have hge:((aS v).length:Int)≤((aS v).length:Int):=Int.le_refl _
   have hz0:(wr.drewN 1).cell? ⟨g,0,none⟩=some (.int .i64 v.gen)∧(wr.drewN 1).cell? ⟨g,1,none⟩=some (.slice A v.au.length a)∧(wr.drewN 1).cell? ⟨g,2,none⟩=some (.slice D v.bL.length d)∧(wr.drewN 1).cell? ⟨g,3,none⟩=some (.slice F v.bS.length f):=⟨cell_of ((dh.drewN 1).block 3 rfl) rfl,cell_of ((dh.drewN 1).block 3 rfl) rfl,cell_of ((dh.drewN 1).block 3 rfl) rfl,cell_of ((dh.drewN 1).block 3 rfl) rfl⟩
   have KV:Hid (Calls Tryz.prog 16 #[pR sb] (wr.drewN 1) fun e w'=>∃ A1 a1 D1 d1 F1 f1,e=.returned (zx t A1 a1 D1 d1 F1 f1)∧In F0 w0 w' (gq (.slice A1 t.au.length a1) t.au::xA (.slice D1 t.bL.length d1) t.bL::FM (.slice F1 t.bS.length f1) t.bS::iF sb t::ay 59 14 (.slice ra (aS v).length rc) (aS v).length (recsV (.slice pa v.au.length pc) (aS v))::gq (.slice pa v.au.length pc) v.au::Cells g #[.int .i64 v.gen,.slice A v.au.length a,.slice D v.bL.length d,.slice F v.bS.length f] 26::R)):=Lib.hid (tH (dh.drewN 1))
   have HL:Hid (t.au.length≤1000000∧t.bL.length≤1000000∧t.bS.length≤1000000):=Lib.hid ⟨by omega,by omega,by omega⟩
   cases hd:decide (t=v) with
   | true=>
    have HD:=Lib.hid hd
    clear dh hlt hk hok ht t1 t2 t3 hd
    go_wp2_with fail
    go_region_held3 (fun w'=>w'.cell? ⟨g,0,none⟩=some (.int .i64 v.gen)∧w'.cell? ⟨g,1,none⟩=some (.slice A v.au.length a)∧w'.cell? ⟨g,2,none⟩=some (.slice D v.bL.length d)∧w'.cell? ⟨g,3,none⟩=some (.slice F v.bS.length f)) (first | exact hz2 | exact hz1 | exact hz0) (first
     | (go_at_call 16;refine KV.out.mono ?_;rintro e w5 ⟨A1,a1,D1,d1,F1,f1,rfl,g5⟩;have hz1:=FT (g5.block 6 rfl);have KS:=Lib.hid (IL (a1:=a1) (e1:=d1) (h1:=f1) (a2:=a) (e2:=d) (h2:=f) (BH 0 1 2 rfl rfl rfl) (HV.out.rV [_,_,_,_,_,_,_]) HL.out.1 HL.out.2.1 HL.out.2.2 g5);clear g5)
     | (go_at_call 19;refine KS.out.mono ?_;rintro e w6 ⟨rfl,g6⟩;rw [HD.out];have hz2:=FT (g6.block 6 rfl);have G6:=Lib.hid (HOF.out w6 (.returned (.tuple #[pR sb,.int .i64 0])) (by have e:=of_decide_eq_true HD.out;rw [if_pos e,← e];exact⟨rfl,g6.aL (R1:=[_,_,_,_,_,_,_]) [3] (by decide) rfl⟩));clear g6))
    go_wp2_with fail
    go_ret2
    exact G6.out
   | false=>
    have HD:=Lib.hid hd
    clear dh hlt hk hok ht t1 t2 t3 hd
    go_wp2_with fail
    go_region_held3 (fun w'=>w'.cell? ⟨g,0,none⟩=some (.int .i64 v.gen)∧w'.cell? ⟨g,1,none⟩=some (.slice A v.au.length a)∧w'.cell? ⟨g,2,none⟩=some (.slice D v.bL.length d)∧w'.cell? ⟨g,3,none⟩=some (.slice F v.bS.length f)) (first | exact hz2 | exact hz1 | exact hz0) (first
     | (go_at_call 16;refine KV.out.mono ?_;rintro e w5 ⟨A1,a1,D1,d1,F1,f1,rfl,g5⟩;have hz1:=FT (g5.block 6 rfl);have KS:=Lib.hid (IL (a1:=a1) (e1:=d1) (h1:=f1) (a2:=a) (e2:=d) (h2:=f) (BH 0 1 2 rfl rfl rfl) (HV.out.rV [_,_,_,_,_,_,_]) HL.out.1 HL.out.2.1 HL.out.2.2 g5);clear g5)
     | (go_at_call 19;refine KS.out.mono ?_;rintro e w6 ⟨rfl,g6⟩;rw [HD.out];have hz2:=FT (g6.block 6 rfl);have G6:=Lib.hid (HOF.out w6 (.returned (.tuple #[.pointer none,.int .i64 1])) (by rw [if_neg (of_decide_eq_false HD.out)];exact⟨rfl,g6.drop.drop.drop.drop.drop.drop.drop⟩));clear g6))
    go_wp2_with fail
    go_ret2
    exact G6.out
end
theorem Sy (n:Int):((sized n:Nat):Int)=max 16 (min n 1048576):=by unfold sized;omega
theorem rO (n:Int):16≤sized n∧sized n≤1048576:=by unfold sized;omega
section
variable {F0:List Nat} {w0 w:World} {R:List ax} {bd lb:Nat} {d:ae} {l:bI}
theorem MX (n:Int) (w:World):Calls Tryz.prog 126 #[.int .i64 n] w fun e w'=>e=.returned (.int .i64 (sized n))∧w'=w:=by
 have HE:=Lib.hid (Sy n)
 go_enter Tryz.func126,Tryz.ntmps126
 go_wp2_with fail
 go_ret
 exact⟨by rw [HE.out];rfl,rfl⟩
theorem OD {b:Nat} {u:Value} {T:TypeId} (h:In F0 w0 w (Cells b #[u] T::R)):In F0 w0 w (ay T 1 (.slice (some ⟨b,0,none⟩) 1 1) 1 [u]::R):=
 h.imp (A':=ay T 1 (.slice (some ⟨b,0,none⟩) 1 1) 1 [u]) 0 rfl (ay.aB _ _ _ _ _) fun F ⟨hF,hb⟩=>⟨hF,rfl,Or.inr ⟨b,1,#[u],rfl,Nat.zero_le _,hb,Nat.le_refl _,by unfold maxLen;omega,rfl,rfl⟩⟩
theorem OE (h:In F0 w0 w (bJ bd d::R)) (ho:d.ops≤99999990) {db:Nat} (j:Nat) (hj:R[j]?=some (Cells db #[aF bd] 36)) :
  Calls Tryz.prog 119 #[.pointer (some ⟨db,0,none⟩)] w fun e w'=>e=.returned (.int .i64 (dM 1 d).2)∧In F0 w0 w' (bJ bd (dM 1 d).1::R):=by
 have c0:w.cell? ⟨db,0,none⟩=some (aF bd):=cell_of (h.block (j+1) hj) rfl
 have C:=Lib.hid (show Calls Tryz.prog 120 #[aF bd,.int .i64 1] w fun e w'=>e=.returned (.int .i64 (dM 1 d).2)∧In F0 w0 w' (bJ bd (dM 1 d).1::R) from MS h 0 rfl ho 1 (by omega))
 clear h hj
 go_enter Tryz.func119,Tryz.ntmps119
 go_wp2_with fail
 refine C.out.mono ?_
 rintro e w1 ⟨rfl,g⟩
 have G:=Lib.hid g
 clear g C
 go_wp2_with fail
 go_ret
 exact⟨rfl,G.out⟩
theorem OG (h:In F0 w0 w (bJ bd d::R)) (ho:d.ops≤99999990) {db:Nat} (j:Nat) (hj:R[j]?=some (Cells db #[aF bd] 36)) :
  Calls Tryz.prog 121 #[.pointer (some ⟨db,0,none⟩)] w fun e w'=>e=.returned (.int .i64 (aW d (ai 1)).2)∧In F0 w0 w' (bJ bd (aW d (ai 1)).1::R):=by
 have HP:Hid (∀ w' d',In F0 w0 w' (bJ bd d'::R)→w'.cell? ⟨db,0,none⟩=some (aF bd)):=Lib.hid fun w' d' h'=>cell_of (h'.block (j+1) hj) rfl
 have HW:=Lib.hid (HP.out w d h)
 have C1:=Lib.hid (fun n=>(show Calls Tryz.prog 123 #[.int .i64 1] (w.drewN n) fun e w'=>e=.returned (.string (ai 1))∧In F0 w0 w' (bJ bd d::R) from pF (h.drewN n) 1 (by omega)))
 have C2:=Lib.hid (fun w' (h':In F0 w0 w' (bJ bd d::R))=>oQ h' 0 rfl (by omega) (ai 1) (dx _))
 clear h hj
 generalize ai 1=nm at *
 go_enter Tryz.func121,Tryz.ntmps121
 go_wp2_with fail
 go_region_held3 (fun w'=>w'.cell? ⟨db,0,none⟩=some (aF bd)) (first | exact HW.out | exact hc2 | exact hc1) (first
  | (go_at_call 123;refine (C1.out 1).mono ?_;rintro e w1 ⟨rfl,g1⟩;have hc1:=HP.out w1 _ g1;have K2:=Lib.hid (C2.out w1 g1);clear g1)
  | (go_at_call 122;refine K2.out.mono ?_;rintro e w2 ⟨rfl,g2⟩;have hc2:=HP.out w2 _ g2;have G:=Lib.hid g2;clear g2))
 go_wp2_with fail
 go_ret
 exact⟨rfl,G.out⟩
theorem OH (m:cZ) {A:Option Addr} {c:Nat} (h:In F0 w0 w (bJ bd d::mf A c m.aa::R)) (ho:d.ops≤99999990) (hn:m.aa.length≤1000000000) {db mb:Nat} (j k:Nat) (hj:R[j]?=some (Cells db #[aF bd] 36)) (hk:R[k]?=some (Cells mb #[.int .i64 m.ak,.int .i64 m.next,.slice A m.aa.length c] 190)) :
  Calls Tryz.prog 124 #[.pointer (some ⟨db,0,none⟩),.pointer (some ⟨mb,0,none⟩)] w fun e w'=>e=.returned (.int .i64 (aG m d).2.2)∧In F0 w0 w' (bJ bd (aG m d).1::mf A c m.aa::R):=by
 have c0:w.cell? ⟨db,0,none⟩=some (aF bd):=cell_of (h.block (j+2) hj) rfl
 have c1:w.cell? ⟨mb,0,none⟩=some (.int .i64 m.ak):=cell_of (h.block (k+2) hk) rfl
 have c2:w.cell? ⟨mb,1,none⟩=some (.int .i64 m.next):=cell_of (h.block (k+2) hk) rfl
 have c3:w.cell? ⟨mb,2,none⟩=some (.slice A m.aa.length c):=cell_of (h.block (k+2) hk) rfl
 have C:=Lib.hid (BJ h 0 rfl ho m (A:=A) (c:=c) (fun w' h'=>by obtain⟨F',r'⟩:=h'.get 1 rfl;exact r'.all) hn)
 unfold iJ at C
 clear h hj hk
 go_enter Tryz.func124,Tryz.ntmps124
 go_wp2_with fail
 refine C.out.mono ?_
 rintro e w1 ⟨rfl,g⟩
 have G:=Lib.hid g
 have HX:Hid (∃ x,(aG m d).2.2=x):=Lib.hid ⟨_,rfl⟩
 clear g C
 go_wp2_with fail
 go_ret
 exact⟨rfl,G.out⟩
def lZ (m:cZ):List (ae→ae×Int):=[dM 1,fun d=>aW d (ai 1),fun d=>((aG m d).1,(aG m d).2.2)]
theorem LA (m:cZ) {fb db mb:Nat} {A:Option Addr} {c:Nat} (ho:d.ops≤99999000) (hn:m.aa.length≤1000000000)
  (fs:List (FuncId×Array Value)) (hfs:fs=[(119,#[.pointer (some ⟨db,0,none⟩)]),(121,#[.pointer (some ⟨db,0,none⟩)]),(124,#[.pointer (some ⟨db,0,none⟩),.pointer (some ⟨mb,0,none⟩)])])
  (h:In F0 w0 w (Cells fb (fs.map Ez).toArray 79::bJ bd d::mf A c m.aa::Cells mb #[.int .i64 m.ak,.int .i64 m.next,.slice A m.aa.length c] 190::Cells db #[aF bd] 36::R)) :
  Calls Tryz.prog 118 #[.slice (some ⟨fb,0,none⟩) 3 3] w fun e w'=>e=.returned (.int .i64 (bK (lZ m) d).2)∧In F0 w0 w' (bJ bd (bK (lZ m) d).1::mf A c m.aa::Cells mb #[.int .i64 m.ak,.int .i64 m.next,.slice A m.aa.length c] 190::Cells db #[aF bd] 36::R):=by
 have lV:∀ args w',(callFunc 119 args).run Tryz.prog w'=.ok (.enter 119 args) w':=enters_of Tryz.func119 (by kernel_rfl) rfl
 have lW:∀ args w',(callFunc 121 args).run Tryz.prog w'=.ok (.enter 121 args) w':=enters_of Tryz.func121 (by kernel_rfl) rfl
 have uJ:∀ args w',(callFunc 124 args).run Tryz.prog w'=.ok (.enter 124 args) w':=enters_of Tryz.func124 (by kernel_rfl) rfl
 have hlen:fs.length=3:=by rw [hfs];rfl
 have key:=AR (F0:=F0) (w0:=w0) (w:=w) (fun k (s:ae)=>s.ops≤99999000+10 * k)
  (fun s=>bJ bd s::mf A c m.aa::Cells mb #[.int .i64 m.ak,.int .i64 m.next,.slice A m.aa.length c] 190::Cells db #[aF bd] 36::R) fb 79 (lZ m) fs (by rw [hlen];rfl) (by omega) d 3
  (by omega)
  (fun k f hf s hI=>by
   rcases k with _ | _ | _ | k
   ·cases hf;have:=rH 1 s;omega
   ·cases hf;have:=fP s (ai 1);show (aW s (ai 1)).1.ops≤_;omega
   ·cases hf;have:=oV m s;show (aG m s).1.ops≤_;omega
   ·simp [lZ] at hf)
  (fun f hf=>by
   rw [hfs] at hf
   simp only [List.mem_cons,List.not_mem_nil,or_false] at hf
   rcases hf with rfl | rfl | rfl
   ·exact lV
   ·exact lW
   ·exact uJ)
  (fun k f g hf hg w' s hI h'=>by
   rw [hfs] at hf
   rcases k with _ | _ | _ | k
   ·cases hf;cases hg
    have:=OE (h'.aL (R1:=[_,_]) [1,0] (by decide) rfl) (by omega) (db:=db) 3 rfl
    exact this.mono fun e w'' ⟨he,hw⟩=>⟨he,hw.aL (R1:=[_,_]) [1,0] (by decide) rfl⟩
   ·cases hf;cases hg
    have:=OG (h'.aL (R1:=[_,_]) [1,0] (by decide) rfl) (by omega) (db:=db) 3 rfl
    exact this.mono fun e w'' ⟨he,hw⟩=>⟨he,hw.aL (R1:=[_,_]) [1,0] (by decide) rfl⟩
   ·cases hf;cases hg
    have:=OH m (h'.aL (R1:=[_,_,_]) [1,2,0] (by decide) rfl) (by omega) hn (db:=db) (mb:=mb) 2 1 rfl rfl
    exact this.mono fun e w'' ⟨he,hw⟩=>⟨he,hw.aL (R1:=[_,_,_]) [2,0,1] (by decide) rfl⟩
   ·simp at hf) h
 rw [hlen] at key
 exact key.mono fun e w' ⟨he,hw⟩=>⟨he,hw.drop⟩
def mI (bd:Nat) (r:ae×Option bI×Int) (F0:List Nat) (w0:World) (R:List ax) (e:Ending) (w':World):Prop:=
 match r.2.1 with
 | none=>e=.returned (.tuple #[.pointer none,.int .i64 r.2.2])∧In F0 w0 w' (bJ bd r.1::R)
 | some l=>∃ lb,e=.returned (.tuple #[aF lb,.int .i64 r.2.2])∧In F0 w0 w' (eH lb bd l::bJ bd r.1::R)
theorem LB (v size:Int) (d:ae) (h1:¬ (v < 1∨3 < v)) (h2:(bP d.now bG).isSome=false) :
  cu v size d=if (bK (lZ (firstM v.toNat)) d).2≠0 then ((bK (lZ (firstM v.toNat)) d).1,none,(bK (lZ (firstM v.toNat)) d).2) else ((bK (lZ (firstM v.toNat)) d).1,some ⟨sized size,firstM v.toNat,false⟩,0):=by
 unfold cu;rw [if_neg h1,if_neg (by rw [h2];simp)];rfl
theorem Sz (h:In F0 w0 w (bJ bd d::R)) (ho:d.ops≤99999000) (v size:Int) :
  Calls Tryz.prog 61 #[aF bd,.int .i64 v,.int .i64 size] w (mI bd (cu v size d) F0 w0 R):=by
 have h1:=h.cells #[aF bd] 36
 have c0:(w.alloc (.cells #[aF bd] 36)).cell? ⟨w.heap.size,0,none⟩=some (aF bd):=cell_of (h1.block 0 rfl) rfl
 have jH:Hid (∀ w' x,In F0 w0 w' (bJ bd d::R)→cu v size d=(d,none,x)→mI bd (cu v size d) F0 w0 R (.returned (.tuple #[.pointer none,.int .i64 x])) w'):=Lib.hid fun w' x h' hx=>by
  rw [hx];exact⟨rfl,h'⟩
 by_cases hv:v < 1∨3 < v
 ·have HE:=Lib.hid (jH.out _ 10 h1.drop (by unfold cu;rw [if_pos hv]))
  clear h h1 jH
  by_cases hv1:v < 1
  ·have q1:decide (v < 1)=true:=by simpa using hv1
   clear hv hv1
   go_enter Tryz.func61,Tryz.ntmps61
   go_wp2_with fail
   go_ret2
   exact HE.out
  ·have q1:decide (v < 1)=false:=by simpa using hv1
   have q2:decide (3 < v)=true:=by simp;omega
   clear hv hv1
   go_enter Tryz.func61,Tryz.ntmps61
   go_wp2_with fail
   go_ret2
   exact HE.out
 ·obtain⟨n,rfl⟩:∃ n:Nat,v=(n:Int):=⟨v.toNat,by omega⟩
  have q1:decide ((n:Int) < 1)=false:=by simp;omega
  have q2:decide ((3:Int) < (n:Int))=false:=by simp;omega
  have C1:=Lib.hid (MR h1 1 rfl bG oU)
  cases hq:(bP d.now bG).isSome with
  | true=>
   have HE:=Lib.hid (fun w' (h':In F0 w0 w' (Cells w.heap.size #[aF bd] 36::bJ bd d::R))=>jH.out w' 12 h'.drop (by unfold cu;rw [if_neg hv,if_pos hq]))
   rw [hq] at C1
   clear h h1 jH hv hq
   go_enter Tryz.func61,Tryz.ntmps61
   go_wp2_with fail
   refine C1.out.mono ?_
   rintro e w1 ⟨rfl,g1⟩
   have HF:=Lib.hid (HE.out w1 g1)
   clear g1 C1 HE
   go_wp2_with fail
   go_ret2
   exact HF.out
  | false=>
   have HE:=Lib.hid (LB n size d hv hq)
   rw [hq] at C1
   clear h h1 jH hv hq
   go_enter Tryz.func61,Tryz.ntmps61
   go_wp2_with fail
   refine C1.out.mono ?_
   rintro e w1 ⟨rfl,g1⟩
   clear C1
   have g2:=OD (g1.cells #[.int .i64 1] 3)
   have g3:=g2.cells #[.int .i64 n,.int .i64 2,.slice (some ⟨w1.heap.size,0,none⟩) 1 1] 190
   have g4:=g3.cells #[.func (.func 119) #[] #[.pointer (some ⟨w.heap.size,0,none⟩)],.func (.func 121) #[] #[.pointer (some ⟨w.heap.size,0,none⟩)],.func (.func 124) #[] #[.pointer (some ⟨w.heap.size,0,none⟩),.pointer (some ⟨w1.heap.size+1,0,none⟩)]] 79
   simp only [World.size_alloc] at g4
   have K:=LA (R:=R) (firstM n) (db:=w.heap.size) (mb:=w1.heap.size+1) (fb:=w1.heap.size+1+1) (A:=some ⟨w1.heap.size,0,none⟩) (c:=1) ho (by simp [firstM]) _ rfl (g4.aL (R1:=[_,_,_,_,_]) [0,4,2,1,3] (by decide) rfl)
   simp only [Int.toNat_natCast] at HE
   generalize bK (lZ (firstM n)) d=r at *
   have KH:=Lib.hid K
   clear K g1 g2 g3 g4 c0
   by_cases hz:r.2=0
   ·have HC:Hid (cu n size d=(r.1,some ⟨sized size,firstM n,false⟩,0)):=Lib.hid (by rw [HE.out,if_neg (by simpa using hz)])
    have HZ:=Lib.hid hz
    clear hz HE
    go_wp2_with fail
    refine KH.out.mono ?_
    rintro e w2 ⟨rfl,g5⟩
    rw [HZ.out]
    have HS:Hid (w2.cell? ⟨w.heap.size,0,none⟩=some (aF bd)∧w2.cell? ⟨w1.heap.size+1,0,none⟩=some (.int .i64 n)∧w2.cell? ⟨w1.heap.size+1,1,none⟩=some (.int .i64 2)∧w2.cell? ⟨w1.heap.size+1,2,none⟩=some (.slice (some ⟨w1.heap.size,0,none⟩) 1 1)):=Lib.hid
     ⟨cell_of (g5.block 3 rfl) rfl,cell_of (g5.block 2 rfl) rfl,cell_of (g5.block 2 rfl) rfl,cell_of (g5.block 2 rfl) rfl⟩
    have g6:=(g5.drewN 1).cells (xu bd ⟨sized size,firstM n,false⟩ (.slice (some ⟨w1.heap.size,0,none⟩) 1 1)) 197
    have g7:In F0 w0 ((w2.drewN 1).alloc (.cells (xu bd ⟨sized size,firstM n,false⟩ (.slice (some ⟨w1.heap.size,0,none⟩) 1 1)) 197)) (eH w2.heap.size bd ⟨sized size,firstM n,false⟩::bJ bd r.1::R):=In.nL (l':=⟨sized size,firstM n,false⟩) (v:=.slice (some ⟨w1.heap.size,0,none⟩) 1 1) (g6.aL (R1:=[_,_,_,_,_]) [2,0,1] (by decide) rfl)
    have HF:Hid (mI bd (cu n size d) F0 w0 R (.returned (.tuple #[aF w2.heap.size,.int .i64 0])) _):=Lib.hid (by
     rw [HC.out]
     exact⟨_,rfl,g7⟩)
    clear g5 g6 g7 KH
    go_wp2_with fail
    obtain⟨s0,s1,s2,s3⟩:=HS.out
    go_region_held3 (fun w'=>w'.cell? ⟨w.heap.size,0,none⟩=some (aF bd)∧w'.cell? ⟨w1.heap.size+1,0,none⟩=some (.int .i64 n)∧w'.cell? ⟨w1.heap.size+1,1,none⟩=some (.int .i64 2)∧w'.cell? ⟨w1.heap.size+1,2,none⟩=some (.slice (some ⟨w1.heap.size,0,none⟩) 1 1))
     (first | with_reducible exact HS.out | ((refine⟨?_,?_,?_,?_⟩ <;> repeat (first | with_reducible exact s0 | with_reducible exact s1 | with_reducible exact s2 | with_reducible exact s3 | rw [World.cell?_drew] | with_reducible refine mY ?_));done) | go_keep)
     (first | (go_at_call 126;refine (MX size _).mono ?_;rintro e w3 ⟨rfl,rfl⟩))
    go_wp2_with fail
    go_ret2
    exact HF.out
   ·have HC:Hid (cu n size d=(r.1,none,r.2)):=Lib.hid (by rw [HE.out,if_pos (by simpa using hz)])
    have q:(r.2 != 0)=true:=by rw [bne_iff_ne];exact hz
    clear hz HE
    go_wp2_with fail
    refine KH.out.mono ?_
    rintro e w2 ⟨rfl,g5⟩
    have HF:Hid (mI bd (cu n size d) F0 w0 R (.returned (.tuple #[.pointer none,.int .i64 r.2])) w2):=Lib.hid (by
     rw [HC.out]
     exact⟨rfl,g5.aL (R1:=[_,_,_,_]) [0] (by decide) rfl⟩)
    clear g5 KH
    go_wp2_with fail
    go_ret2
    exact HF.out
end
end Go.Proofs.YtanhdliaaccacaaGreat
