/- Parts of the proofs that a compaction keeps what lives, and done again is as once. -/
import Derived.Test.YtogclkhpbjfadaaGreatCK38
namespace Go.Proofs.YtogclkhpbjfadaaGreat
open Go.RowKit
set_option linter.unusedVariables false
set_option maxHeartbeats 64000000
set_option maxRecDepth 100000
theorem TE {n m l:Nat} (h1:m=n+(16+l)) (h2:m≤60000):wrap64 ((n:Int)+wrap64 (16+(l:Int)))=(m:Int):=by unfold wrap64;omega
section
variable {F0:List Nat} {w0 w:World} {R:List az} {st:fP}
def LF (st:fP) (aj:Int) (rv pv:Value) (F0:List Nat) (w0:World) (R:List az) (v i:Value) (wr:World):Prop:=
 ∃ k:Nat,k≤(aM st).length∧i=.int .i64 k∧v=.int .i64 ((aN ((cK aj st).take k)).length:Nat)∧In F0 w0 wr (ay 69 14 rv (aM st).length (recsV pv (aM st))::gG pv st.ax::R)
theorem MU (hok:fU st) {aj:Int} (hv:dQ aj=true) (size:Int) {A D F:Option Addr} {a d f:Nat} (hA:wY F0 w0 R st A D F) (hn:A=none→a=0) (h:In F0 w0 w R) :
  Calls Tryz.prog 52 #[Ct st A a D d F f,.int .i64 aj,.int .i64 size] w fun e w'=>e=.returned (.int .i64 ((aN (cK aj st)).length:Nat))∧In F0 w0 w' R:=by
 have h1:=h.cells #[.int .i64 st.gen,.slice A st.ax.length a,.slice D st.bN.length d,.slice F st.bU.length f] 62
 obtain⟨l1,l2,l3⟩:=hok.lens
 have K1:=Sm (v:=st) (a:=a) (d:=d) (f:=f) (hA.more (Cells w.heap.size #[.int .i64 st.gen,.slice A st.ax.length a,.slice D st.bN.length d,.slice F st.bU.length f] 62)) hn (by omega) (by omega) (by omega) (fun r hr=>(mQ.recs hok r hr).1) h1
 have K1':Hid (Calls Tryz.prog 137 #[Ct st A a D d F f] (w.alloc (.cells #[.int .i64 st.gen,.slice A st.ax.length a,.slice D st.bN.length d,.slice F st.bU.length f] 62)) fun e w'=>∃ sb,e=.returned (.tuple #[pR sb,.int .i64 0])∧In F0 w0 w' (iH sb st::Cells w.heap.size #[.int .i64 st.gen,.slice A st.ax.length a,.slice D st.bN.length d,.slice F st.bU.length f] 62::R)):=Lib.hid (K1.mono (fun e w' hp=>by unfold rJ at hp;rw [LX hok] at hp;exact hp))
 have mD:=Lib.hid hok
 have HV:=Lib.hid hv
 have HLEN:=Lib.hid (xz hok hv)
 have hrl:(cK aj st).length=(aM st).length:=by simp [cK]
 have hlen:=nO hok
 clear h h1 K1 hok hv hA hn l1 l2 l3
 go_enter Tryz.func52,Tryz.ntmps52
 go_wp2_with fail
 refine K1'.out.mono ?_
 rintro e w1 ⟨sb,rfl,g1⟩
 have K2:=Lib.hid (DF g1)
 clear g1 K1'
 go_wp2_with fail
 refine K2.out.mono ?_
 rintro e w2 ⟨rv,pv,rfl,g2⟩
 obtain⟨Fr,rr⟩:=g2.get 0 rfl
 obtain⟨ra,rc,rfl,-,-,-⟩:=ay.shape rr
 obtain⟨Fp,rp⟩:=g2.get 1 rfl
 obtain⟨pa,pc,rfl,-,-,-⟩:=ay.shape rp
 have HN:Hid (pa=none→pc=0):=Lib.hid (fun e=>ay.Hy rp e)
 have HR:Hid (LF st aj (.slice ra (aM st).length rc) (.slice pa st.ax.length pc) F0 w0 R (.int .i64 0) (.int .i64 0) w2):=Lib.hid ⟨0,Nat.zero_le _,rfl,rfl,(g2.aI (R1:=[_,_,_,_]) (R2:=R) [0,1] (by decide) rfl)⟩
 clear g2 K2 rr rp
 go_wp2_with fail
 go_loopw [9,24] (LF st aj (.slice ra (aM st).length rc) (.slice pa st.ax.length pc) F0 w0 R) (fun _ k _=>(aM st).length - (intOf k).toNat)
 case atStart=>exact HR.out
 case round=>
  obtain⟨k,hk,rfl,rfl,dC⟩:=hrel
  clear HR
  by_cases hlt:k < (aM st).length
  ·obtain⟨x,hx⟩:∃ x,(aM st)[k]?=some x:=⟨(aM st)[k],List.getElem?_eq_getElem hlt⟩
   obtain⟨Fr,rr⟩:=dC.get 0 rfl
   obtain⟨gr,o,rfl,sc⟩:=rr.all.plain (by omega) (by decide)
   obtain⟨Ax,cx,hpx,hnx,hbx⟩:∃ Ax cx,(if k=0 then (Value.slice pa st.ax.length pc) else .slice none 0 0)=.slice Ax x.ax.length cx∧(Ax=none→cx=0)∧gZ F0 w0 (ay 69 14 (.slice (some ⟨gr,o,none⟩) (aM st).length rc) (aM st).length (recsV (.slice pa st.ax.length pc) (aM st))::gG (.slice pa st.ax.length pc) st.ax::R) Ax x.ax:=by
    rcases uo hx with ⟨rfl,e⟩|⟨h0,e⟩
    ·refine⟨pa,pc,by rw [if_pos rfl,e],HN.out,?_⟩
     rw [e]
     exact fun w' h'=>by obtain⟨F',r'⟩:=h'.get 1 rfl;exact r'.all
    ·refine⟨none,0,by rw [if_neg h0,e];rfl,fun _=>rfl,?_⟩
     rw [e]
     exact fun w' h'=>Src.nil _ _ _
   have c0:wr.cell? ⟨gr,o+k * 14,none⟩=some (.int .i64 x.kind):=by
    have:=sc (k * 14+0) _ (by rw [bS hx 0 (by decide),hpx];rfl)
    rwa [← Nat.add_assoc] at this
   have c1:wr.cell? ⟨gr,o+k * 14+1,none⟩=some (.int .u32 x.fl.t.src):=by
    have:=sc (k * 14+1) _ (by rw [bS hx 1 (by decide),hpx];rfl)
    rwa [← Nat.add_assoc] at this
   have c2:wr.cell? ⟨gr,o+k * 14+2,none⟩=some (.int .u32 x.fl.t.dst):=by
    have:=sc (k * 14+2) _ (by rw [bS hx 2 (by decide),hpx];rfl)
    rwa [← Nat.add_assoc] at this
   have c3:wr.cell? ⟨gr,o+k * 14+3,none⟩=some (.int .i64 x.fl.t.proto):=by
    have:=sc (k * 14+3) _ (by rw [bS hx 3 (by decide),hpx];rfl)
    rwa [← Nat.add_assoc] at this
   have c4:wr.cell? ⟨gr,o+k * 14+4,none⟩=some (.int .i64 x.fl.t.ag):=by
    have:=sc (k * 14+4) _ (by rw [bS hx 4 (by decide),hpx];rfl)
    rwa [← Nat.add_assoc] at this
   have c5:wr.cell? ⟨gr,o+k * 14+5,none⟩=some (.int .i64 x.fl.t.ah):=by
    have:=sc (k * 14+5) _ (by rw [bS hx 5 (by decide),hpx];rfl)
    rwa [← Nat.add_assoc] at this
   have c6:wr.cell? ⟨gr,o+k * 14+6,none⟩=some (.int .i64 x.fl.bk):=by
    have:=sc (k * 14+6) _ (by rw [bS hx 6 (by decide),hpx];rfl)
    rwa [← Nat.add_assoc] at this
   have c7:wr.cell? ⟨gr,o+k * 14+7,none⟩=some (.int .i64 x.fl.gen):=by
    have:=sc (k * 14+7) _ (by rw [bS hx 7 (by decide),hpx];rfl)
    rwa [← Nat.add_assoc] at this
   have c8:wr.cell? ⟨gr,o+k * 14+8,none⟩=some (.int .i64 x.fl.seen):=by
    have:=sc (k * 14+8) _ (by rw [bS hx 8 (by decide),hpx];rfl)
    rwa [← Nat.add_assoc] at this
   have c9:wr.cell? ⟨gr,o+k * 14+9,none⟩=some (.int .i64 x.gen):=by
    have:=sc (k * 14+9) _ (by rw [bS hx 9 (by decide),hpx];rfl)
    rwa [← Nat.add_assoc] at this
   have c10:wr.cell? ⟨gr,o+k * 14+10,none⟩=some (.slice Ax x.ax.length cx):=by
    have:=sc (k * 14+10) _ (by rw [bS hx 10 (by decide),hpx];rfl)
    rwa [← Nat.add_assoc] at this
   have c11:wr.cell? ⟨gr,o+k * 14+11,none⟩=some (.int .i64 x.bk):=by
    have:=sc (k * 14+11) _ (by rw [bS hx 11 (by decide),hpx];rfl)
    rwa [← Nat.add_assoc] at this
   have c12:wr.cell? ⟨gr,o+k * 14+12,none⟩=some (.int .i64 x.till):=by
    have:=sc (k * 14+12) _ (by rw [bS hx 12 (by decide),hpx];rfl)
    rwa [← Nat.add_assoc] at this
   have c13:wr.cell? ⟨gr,o+k * 14+13,none⟩=some (.int .i64 x.count):=by
    have:=sc (k * 14+13) _ (by rw [bS hx 13 (by decide),hpx];rfl)
    rwa [← Nat.add_assoc] at this
   have hlt':(k:Int) < ((aM st).length:Int):=Int.ofNat_lt.2 hlt
   have hw2:wrap64 ((k:Int)+1)=(k:Int)+1:=by unfold wrap64;omega
   obtain⟨WR,wx2,wx3⟩:=mQ.recs mD.out x (List.mem_of_getElem? hx)
   have hbl:x.ax.length≤1000000:=by
    have:=(mD.out.lens).1
    rcases uo hx with ⟨_,e⟩|⟨_,e⟩ <;> rw [e]
    ·omega
    ·exact Nat.zero_le _
   have henc:=(oK WR HV.out wx2).1
   have TI:(cK aj st)[k]?=some (dh x aj).1:=by simp [cK,hx]
   have htk:(cK aj st).take (k+1)=(cK aj st).take k++[(dh x aj).1]:=by rw [List.take_add_one,TI];rfl
   have htl:(aN ((cK aj st).take (k+1))).length=(aN ((cK aj st).take k)).length+(16+(dh x aj).1.body.length):=by
    rw [htk,jo,List.length_append];simp [aN,dD]
   have htm:(aN ((cK aj st).take (k+1))).length≤60000:=by
    refine Nat.le_trans ?_ HLEN.out
    conv=>rhs;rw [← List.take_append_drop (k+1) (cK aj st),jo,List.length_append]
    exact Nat.le_add_right _ _
   have g1:=dC.cells #[.int .i64 x.kind,.int .u32 x.fl.t.src,.int .u32 x.fl.t.dst,.int .i64 x.fl.t.proto,.int .i64 x.fl.t.ag,.int .i64 x.fl.t.ah,.int .i64 x.fl.bk,.int .i64 x.fl.gen,.int .i64 x.fl.seen,.int .i64 x.gen,.slice Ax x.ax.length cx,.int .i64 x.bk,.int .i64 x.till,.int .i64 x.count] 69
   have KE:=(zK (r:=x) (c:=cx) aj (hbx.oZ [Cells wr.heap.size #[.int .i64 x.kind,.int .u32 x.fl.t.src,.int .u32 x.fl.t.dst,.int .i64 x.fl.t.proto,.int .i64 x.fl.t.ag,.int .i64 x.fl.t.ah,.int .i64 x.fl.bk,.int .i64 x.fl.gen,.int .i64 x.fl.seen,.int .i64 x.gen,.slice Ax x.ax.length cx,.int .i64 x.bk,.int .i64 x.till,.int .i64 x.count] 69]) WR hbl g1)
   have HM:=Lib.hid (dV hlt')
   have HK:Hid (k+1≤(aM st).length):=Lib.hid hlt
   clear dC hx hk rr sc hpx hnx hbx g1 TI htk WR wx2 wx3 hlt
   rw [show dh x aj=((dh x aj).1,0) from by rw [← henc]] at KE
   replace KE:=Lib.hid KE
   clear henc
   obtain⟨n2,hn2⟩:∃ n2,n2=(aN ((cK aj st).take (k+1))).length:=⟨_,rfl⟩
   generalize (aN ((cK aj st).take k)).length=n at *
   generalize (dh x aj).1=fr at *
   have hwn:wrap64 ((n:Int)+wrap64 (16+(fr.body.length:Int)))=(n2:Int):=TE (hn2.trans htl) (by rw [hn2];exact htm)
   have uf:=Lib.hid hn2
   clear htl htm hn2
   go_wp2_with fail
   refine KE.out.mono ?_
   rintro e w3 ⟨v,rfl,g3⟩
   obtain⟨Fv,rv⟩:=g3.get 0 rfl
   obtain⟨bv,bc,rfl,-,-,-⟩:=ay.shape rv
   have HR:Hid (LF st aj (.slice (some ⟨gr,o,none⟩) (aM st).length rc) (.slice pa st.ax.length pc) F0 w0 R (.int .i64 (n2:Int)) (.int .i64 ((k:Int)+1)) (w3.alloc (.cells #[.int .i64 fr.kind,.int .i64 fr.aj,.slice bv fr.body.length bc] 40))):=Lib.hid ⟨k+1,HK.out,by rw [Int.natCast_add];rfl,by rw [uf.out],(g3.cells #[.int .i64 fr.kind,.int .i64 fr.aj,.slice bv fr.body.length bc] 40).aI (R1:=[_,_,_,_,_]) (R2:=R) [3,4] (by decide) rfl⟩
   clear g3 rv KE uf
   go_wp2_with fail
   go_roundw
   case rel=>(try rw [hw2]);(try rw [hwn]);exact HR.out
   case measure=>(try rw [hw2]);exact HM.out
  ·have hge:((aM st).length:Int)≤(k:Int):=Int.ofNat_le.2 (Nat.le_of_not_lt hlt)
   have hkl:k=(aM st).length:=by omega
   subst hkl
   have G:Hid (In F0 w0 wr R):=Lib.hid dC.drop.drop
   have HT:Hid ((cK aj st).take (aM st).length=cK aj st):=Lib.hid (List.take_of_length_le (Nat.le_of_eq hrl))
   clear dC hlt hk hrl
   rw [HT.out]
   clear HT
   obtain⟨n,hn⟩:∃ n,n=(aN (cK aj st)).length:=⟨_,rfl⟩
   rw [← hn]
   have UG:=Lib.hid hn
   clear hn
   go_wp2_with fail
   go_ret
   exact⟨by rw [← UG.out];rfl,G.out⟩
end
theorem Jo {n:Nat} (h:n≤60000):wrap64 (2 * (n:Int))=2 * (n:Int):=by unfold wrap64;omega
section
variable {F0:List Nat} {w0 w:World} {R:List az} {sb lb bd dz:Nat}
def rQ (s:SD):Nat:=(aN (cK (s.2.l.m.aj:Int) s.2.st)).length
def LG (s:SD) (size:Int):Bool:=decide (size < (jX (s.1,s.2.l):Int)) && decide (2 * (rQ s:Int) < (jX (s.1,s.2.l):Int))
theorem Wl {s:SD} (hl:gH s.2.l) (hok:fU s.2.st) (hv:dQ (s.2.l.m.aj:Int)=true) (size:Int) (h:In F0 w0 w (oG sb lb bd dz s R)) :
  Calls Tryz.prog 55 #[pR sb,.int .i64 size] w fun e w'=>e=.returned (.bool (LG s size))∧In F0 w0 w' (oG sb lb bd dz s R):=by
 have K1:=Lib.hid (qK hl h)
 have HD:=Lib.hid (Jo (xz hok hv))
 have HB:Hid (rQ s=(aN (cK (s.2.l.m.aj:Int) s.2.st)).length):=Lib.hid rfl
 have HP:Hid (LG s size=(decide (size < (jX (s.1,s.2.l):Int)) && decide (2 * (rQ s:Int) < (jX (s.1,s.2.l):Int)))):=Lib.hid rfl
 have mD:=Lib.hid hok
 have HV:=Lib.hid hv
 by_cases q:size < (jX (s.1,s.2.l):Int)
 case neg=>
  have q':decide (size < (jX (s.1,s.2.l):Int))=false:=decide_eq_false q
  rw [q',Bool.false_and] at HP
  clear h hl hok hv mD HV HD HB
  generalize (jX (s.1,s.2.l):Int)=z at *
  go_enter Tryz.func55,Tryz.ntmps55
  go_wp2_with fail
  refine K1.out.mono ?_
  rintro e w1 ⟨rfl,g1⟩
  have G:=Lib.hid g1
  clear g1 K1
  go_wp2_with fail
  go_ret
  exact⟨by rw [HP.out];rfl,G.out⟩
 have q':decide (size < (jX (s.1,s.2.l):Int))=true:=decide_eq_true q
 rw [q',Bool.true_and] at HP
 clear h hl hok hv q'
 go_enter Tryz.func55,Tryz.ntmps55
 go_wp2_with fail
 refine K1.out.mono ?_
 rintro e w1 ⟨rfl,g1⟩
 have K2:=Lib.hid (jT g1)
 have K3:=Lib.hid (ig (g1.aI (R1:=[_,_,_,_]) (R2:=R) [3,0,1,2] (by decide) rfl))
 clear g1 K1
 obtain⟨z,hz⟩:∃ z:Int,z=(jX (s.1,s.2.l):Int):=⟨_,rfl⟩
 rw [← hz] at q HP ⊢
 have HZ:=Lib.hid hz
 clear hz
 go_wp2_with fail
 refine K2.out.mono ?_
 rintro e w2 ⟨rfl,rfl⟩
 go_wp2_with fail
 refine K3.out.mono ?_
 rintro e w3 ⟨A,a,D,d,F,f,rfl,g3⟩
 obtain⟨Fb,rb⟩:=g3.get 0 rfl
 have hn:A=none→a=0:=fun e=>ay.Hy rb e
 have K4:=Lib.hid (sZ (g3.aI (R1:=[_,_,_,_,_,_,_]) (R2:=R) [4,5,6,3,0,1,2] (by decide) rfl))
 have K5:=Lib.hid (MU (st:=s.2.st) (a:=a) (d:=d) (f:=f) mD.out HV.out size (jA 0 1 2 rfl rfl rfl) hn g3)
 clear g3 rb hn K2 K3
 go_wp2_with fail
 refine K4.out.mono ?_
 rintro e w4 ⟨rfl,rfl⟩
 go_wp2_with fail
 refine K5.out.mono ?_
 rintro e w5 ⟨rfl,g5⟩
 rw [← HB.out] at HD ⊢
 have G:=Lib.hid (g5.aI (R1:=[_,_,_,_,_,_,_]) (R2:=R) [4,5,6,3] (by decide) rfl)
 clear g5 K4 K5
 obtain⟨m,hm⟩:∃ m:Int,m=(rQ s:Int):=⟨_,rfl⟩
 rw [← hm] at HD HP ⊢
 have hd:=HD.out
 clear hm HB mD HV HD
 go_wp2_with fail
 go_ret
 exact⟨by rw [HP.out,← hd];rfl,G.out⟩
theorem TF {s:SD} (hl:gH s.2.l) (h:In F0 w0 w (oG sb lb bd dz s R)):Calls Tryz.prog 38 #[pR sb] w fun e w'=>e=.returned (.int .i64 s.2.l.m.aa.length)∧In F0 w0 w' (oG sb lb bd dz s R):=by
 obtain⟨A,a,D,d,F,f,g0⟩:=h.rH
 have c0:w.cell? ⟨sb,0,none⟩=some (aD lb):=cell_of (g0.block 0 rfl) rfl
 have K:=Lib.hid (tC hl (h.aI (R1:=[_,_,_,_]) (R2:=R) [1,2,0,3] (by decide) rfl))
 clear h g0
 go_enter Tryz.func38,Tryz.ntmps38
 go_wp2_with fail
 refine K.out.mono ?_
 rintro e w1 ⟨a',c',rfl,g⟩
 have G:=Lib.hid (g.drop.aI (R1:=[_,_,_,_]) (R2:=R) [2,0,1,3] (by decide) rfl)
 clear g K c0
 go_wp2_with fail
 go_ret
 exact⟨rfl,G.out⟩
end
theorem xy.uC {z:Nat} {v:Int} {B n x:Nat} {s:SD} (h:xy z v B n x s) (h0:(dx v s.2.st s).2=0) (size:Int) (p:List UInt8):MS size (iw (dx v s.2.st s).1.1 p) s.2.st:=by
 obtain⟨Fr,k,hi⟩:=h.inv
 have hvk:=hi.aj
 rw [h.aj] at hvk
 have hv3:=hvk
 unfold dQ at hv3
 simp only [decide_eq_true_eq] at hv3
 have mr:=h.aj
 obtain⟨_,a2⟩:=hi.swap (v:=v) hi.ok ⟨by omega,hv3.2⟩
 rw [h.fmt.eq] at a2
 have hrows:rdAll (cK v s.2.st) aJ=(s.2.st,0):=by
  have:=Ar hi.ok hvk
  rw [h.fmt.eq] at this
  exact this
 rcases a2 with ⟨_,_,_,_,g,_⟩|⟨g,_⟩
 case inr=>exact absurd h0 g
 obtain⟨m0,Cq,g1,g2⟩:=g.YG hrows hrows p
 have hm:=(bH.1 g1.may).1
 obtain⟨d',e,_⟩:=Mf g1 rfl g2 hi.ok size (aj:=3) ⟨by omega,by omega⟩
 exact⟨d',_,e⟩
theorem Jp {v:Int} {s:SD} {size:Int} (h:oH 60 (sized size) v s) :
  Wd s 2200∧dQ v=true∧∀ s1,s1=(dx s.2.l.m.aj s.2.st s).1 →
  (s1.2.st=s.2.st∧s1.1.ops≤4200 ∧
    ((dx s.2.l.m.aj s.2.st s).2=4∨((dx s.2.l.m.aj s.2.st s).2=0∧Wd s1 4200∧s1.2.sure=s.2.st∧(s1.2.l.m.aj:Int)=v∧jX (s1.1,s1.2.l)=rQ s∧s1.1.now.length=s1.2.l.m.aa.length+1∧∀ p,MS size (iw s1.1 p) s.2.st))):=by
 have hz:=Cf size
 have c:=h.cp
 have r0:Wd s 2200:=c.rdy hz (by have:=h.su.ops;omega)
 have hv:dQ (s.2.l.m.aj:Int)=true:=by obtain⟨_,_,g⟩:=c.inv;exact g.aj
 refine⟨r0,by rw [← c.aj];exact hv,fun s1 e1=>?_⟩
 rw [c.aj] at e1 ⊢
 have c':xy (sized size) v ((79444:Nat)+60278) (73+65) 62 s:=⟨c.inv,c.loose,c.rm.le (by omega) (by omega),c.only,c.size,c.aj,c.fmt,c.next⟩
 have o1:s1.1.ops≤4200:=by
  have:=yC r0.lg r0.ok hv
  rw [c.aj,← e1] at this
  have:=r0.ops;omega
 obtain⟨a1,a2⟩:=c'.swap (by omega)
 have hcr:=c'.uC
 rw [← e1] at a1 a2 hcr
 refine⟨a1,o1,?_⟩
 rcases a2 with ⟨b1,b2,b3,b4,b5,b6⟩|⟨b1,b2⟩
 case inr=>exact Or.inl b1
 obtain⟨Fr,k,g⟩:=b3.inv
 refine Or.inr ⟨b1,b3.rdy hz o1,b4,b3.aj,?_,Eb (g.EN b3.loose) b3.only,fun p=>hcr b1 size p⟩
 rw [b6];unfold rQ;rw [c.aj]
theorem Wm {n m:Nat} (h:n=m+1) (h2:m≤64):((n:Int) != wrap64 ((m:Int)+1))=false:=by
 have:wrap64 ((m:Int)+1)=(n:Int):=by unfold wrap64;omega
 rw [this];simp
theorem TG {n m:Nat} (h:n=m+1) (h2:m≤64):((n:Int) != IntKind.i64.wrap ((m:Int)+1))=false:=by
 have:IntKind.i64.wrap ((m:Int)+1)=(n:Int):=by rw [IntWalk.i64_in _ (by omega)];omega
 rw [this];simp
theorem TH {n m:Nat} (h:n=m+1) (h2:m≤64):wrap64 ((m:Int)+1)=(n:Int):=by unfold wrap64;omega
theorem xB (W:World) (version:Int) (wv:(Lit.int .i64 version).wf=true) (size:Int) (wsz:(Lit.int .i64 size).wf=true) {v:Value} {cs:List oL} (hv:nM W v cs) :
  Calls Tryz.prog 14 #[.int .i64 version,.int .i64 size,v] W (SL W):=by
 have Wi:=Lib.hid (fun w' (R:List az) (h':In [] W w' R)=>Ed h')
 have KF:=Lib.hid (fun z zs (hz:1≤z∧z≤3)=>Ec hz zs (Own.nil W) hv)
 have TC:=Lib.hid (SN version)
 clear hv wv wsz
 go_enter Tryz.func14,Tryz.ntmps14
 go_wp2_with fail
 generalize wrap64 (1+wrap64 ((IntKind.u64.wrap version).tmod 3))=z at *
 generalize wrap64 ((IntKind.u64.wrap size).tmod 500)=zs at *
 refine (KF.out z zs TC.out).mono ?_
 rintro e w1 ⟨sb,lb,bd,dz,s,rfl,hfi,g1⟩
 obtain⟨r0,hvz,hx⟩:=Jp hfi
 have HX:=Lib.hid hx
 have YQ:=Lib.hid r0
 have HVZ:=Lib.hid hvz
 have HVR:Hid ((s.2.l.m.aj:Int)=z):=Lib.hid hfi.aj
 obtain⟨t,ht⟩:∃ t,t=s.2.st:=⟨_,rfl⟩
 have HT:=Lib.hid ht
 have Ck:Hid (fU t):=Lib.hid (by rw [ht];exact r0.ok)
 have K6:=Lib.hid (jT g1)
 have K7:=ig (g1.aI (R1:=[_,_,_,_]) (R2:=[]) [3,0,1,2] (by decide) rfl)
 rw [← ht] at K7
 have K7':=Lib.hid K7
 clear g1 KF hfi hx r0 hvz ht K7 TC
 go_wp2_with fail
 refine K6.out.mono ?_
 rintro e w7 ⟨rfl,rfl⟩
 go_wp2_with fail
 refine K7'.out.mono ?_
 rintro e w8 ⟨A4,a4,D4,d4,F4,f4,rfl,g8⟩
 have g9:=(g8.cells #[.int .i64 t.gen,.slice A4 t.ax.length a4,.slice D4 t.bN.length d4,.slice F4 t.bU.length f4] 62).aI (R1:=[_,_,_,_,_,_,_,_]) (R2:=[]) [5,6,7,4,0,1,2,3] (by decide) rfl
 obtain⟨ob,YO⟩:∃ ob,ob=w8.heap.size:=⟨_,rfl⟩
 obtain⟨w9,YP⟩:∃ w9,w9=w8.alloc (.cells #[.int .i64 t.gen,.slice A4 t.ax.length a4,.slice D4 t.bN.length d4,.slice F4 t.bU.length f4] 62):=⟨_,rfl⟩
 have g10:In [] W w9 (oG sb lb bd dz s [Cells ob #[.int .i64 t.gen,.slice A4 t.ax.length a4,.slice D4 t.bN.length d4,.slice F4 t.bU.length f4] 62,gG (.slice A4 t.ax.length a4) t.ax,zq (.slice D4 t.bN.length d4) t.bN,BI (.slice F4 t.bU.length f4) t.bU]):=by rw [YO,YP];unfold oG;rw [← HT.out];exact g9
 have hz0:=fJ (g10.block 4 rfl)
 obtain⟨Fb,rb⟩:=g10.get 5 rfl
 have hn:A4=none→a4=0:=fun e=>ay.Hy rb e
 have K8:=Lib.hid (MU (st:=t) (a:=a4) (d:=d4) (f:=f4) Ck.out HVZ.out zs (jA 5 6 7 rfl rfl rfl) hn g10)
 have KN:=Lib.hid (fun w' (h':In [] W w' (oG sb lb bd dz s [Cells ob #[.int .i64 t.gen,.slice A4 t.ax.length a4,.slice D4 t.bN.length d4,.slice F4 t.bU.length f4] 62,gG (.slice A4 t.ax.length a4) t.ax,zq (.slice D4 t.bN.length d4) t.bN,BI (.slice F4 t.bU.length f4) t.bU]))=>Wl YQ.out.lg YQ.out.ok (by rw [HVR.out];exact HVZ.out) zs h')
 have KS:=Lib.hid (fun w' (h':In [] W w' (oG sb lb bd dz s [Cells ob #[.int .i64 t.gen,.slice A4 t.ax.length a4,.slice D4 t.bN.length d4,.slice F4 t.bU.length f4] 62,gG (.slice A4 t.ax.length a4) t.ax,zq (.slice D4 t.bN.length d4) t.bN,BI (.slice F4 t.bU.length f4) t.bU]))=>qK YQ.out.lg h')
 have KD:=Lib.hid (fun w' (h':In [] W w' (oG sb lb bd dz s [Cells ob #[.int .i64 t.gen,.slice A4 t.ax.length a4,.slice D4 t.bN.length d4,.slice F4 t.bU.length f4] 62,gG (.slice A4 t.ax.length a4) t.ax,zq (.slice D4 t.bN.length d4) t.bN,BI (.slice F4 t.bU.length f4) t.bU]))=>Gn YQ.out.lg (Classical.choose_spec (Classical.choose_spec YQ.out.inv)) (by have:=YQ.out.ops;omega) h')
 have HDW:=Lib.hid (Jo (xz Ck.out HVZ.out))
 have HBP:Hid (rQ s=(aN (cK z t)).length):=Lib.hid (by unfold rQ;rw [HVR.out,HT.out])
 have Zd:=Lib.hid YO
 have Ze:=Lib.hid YP
 clear g8 g9 g10 K6 K7' YO YP rb hn YQ
 go_wp2_with fail
 rw [← Zd.out,← Ze.out]
 go_wp2_with fail
 refine K8.out.mono ?_
 rintro e Co ⟨rfl,g11⟩
 rw [← HBP.out] at HDW ⊢
 have K9:=Lib.hid (KN.out Co g11)
 clear g11 K8 KN hz0 Zd Ze
 obtain⟨b,hb⟩:∃ b:Int,b=(rQ s:Int):=⟨_,rfl⟩
 obtain⟨sz,hsz⟩:∃ sz:Int,sz=(jX (s.1,s.2.l):Int):=⟨_,rfl⟩
 have HNP:Hid (LG s zs=(decide (zs < sz) && decide (2 * b < sz))):=Lib.hid (by rw [hb,hsz];rfl)
 rw [← hb] at HDW ⊢
 rw [← hsz] at KS
 have HB:=Lib.hid hb
 have hdw:=HDW.out
 clear hb hsz HDW
 go_wp2_with fail
 refine K9.out.mono ?_
 rintro e Zq ⟨rfl,g12⟩
 have TK:=Lib.hid (KS.out Zq g12)
 rw [HNP.out,← hdw]
 clear g12 K9 hdw HNP
 go_upto_region 8 with fail
 go_cut [11,55] (fun x11 x55 wx=>x55=.bool false∧(∃ bb,x11=.bool bb)∧In [] W wx (oG sb lb bd dz s [Cells ob #[.int .i64 t.gen,.slice A4 t.ax.length a4,.slice D4 t.bN.length d4,.slice F4 t.bU.length f4] 62,gG (.slice A4 t.ax.length a4) t.ax,zq (.slice D4 t.bN.length d4) t.bN,BI (.slice F4 t.bU.length f4) t.bU]))
 case first=>
  by_cases p1:wrap64 (2 * b) < sz
  ·by_cases p2:zs < sz
   ·rw [decide_eq_true p1,decide_eq_true p2,Bool.and_true]
    go_wp2_with fail
    refine TK.out.mono ?_
    rintro e Wj ⟨rfl,g13⟩
    have K11:=Lib.hid (KS.out Wj g13)
    clear g13 TK
    go_wp2_with fail
    refine K11.out.mono ?_
    rintro e w13 ⟨rfl,g14⟩
    have G:=Lib.hid g14
    clear g14 K11
    go_wp2_with fail
    go_meet
    exact⟨rfl,⟨_,rfl⟩,G.out⟩
   ·have p2':decide (zs < sz)=false:=decide_eq_false p2
    rw [decide_eq_true p1,p2',Bool.false_and]
    go_wp2_with fail
    refine TK.out.mono ?_
    rintro e Wj ⟨rfl,g13⟩
    have K11:=Lib.hid (KS.out Wj g13)
    clear g13 TK
    go_wp2_with fail
    refine K11.out.mono ?_
    rintro e w13 ⟨rfl,g14⟩
    have G:=Lib.hid g14
    clear g14 K11
    go_wp2_with fail
    go_meet
    exact⟨rfl,⟨_,rfl⟩,G.out⟩
  ·have p1':decide (wrap64 (2 * b) < sz)=false:=decide_eq_false p1
   rw [p1',Bool.and_false]
   go_wp2_with fail
   refine TK.out.mono ?_
   rintro e Wj ⟨rfl,g13⟩
   have G:=Lib.hid g13
   clear g13 TK
   go_wp2_with fail
   go_meet
   exact⟨rfl,⟨_,rfl⟩,G.out⟩
 case rest=>
 obtain⟨rfl,⟨bb,rfl⟩,g13⟩:=hcut
 have KD1:=Lib.hid (KD.out _ g13)
 clear g13 TK KS KD
 go_wp2_with fail
 refine KD1.out.mono ?_
 rintro e Wj ⟨Tq,rfl,g14⟩
 obtain⟨s1,hs1⟩:∃ s1,s1=(dx s.2.l.m.aj s.2.st s).1:=⟨_,rfl⟩
 rw [← hs1] at g14
 obtain⟨er,her⟩:∃ er,er=(dx s.2.l.m.aj s.2.st s).2:=⟨_,rfl⟩
 obtain⟨x1,x2,x3⟩:=HX.out s1 hs1
 rw [← her] at x3 ⊢
 rw [← HT.out] at x1 x3
 have X1:=Lib.hid x1
 have X2:=Lib.hid x2
 clear KD1 HX hs1 her x1 x2
 rcases x3 with rfl | ⟨rfl,x4,x5,x6,x7,x8,x9⟩
 ·have hz0:=fJ ((g14.drewN 1).block 4 rfl)
  have K6:=Lib.hid (jT (g14.drewN 1))
  have K7:=Lib.hid (ig ((g14.drewN 1).aI (R1:=[_,_,_,_,_,_,_,_]) (R2:=[]) [3,0,1,2,4,5,6,7] (by decide) rfl))
  clear g14
  go_wp2_with fail
  go_region_held3 (fun w'=>w'.cell? ⟨ob,0,none⟩=some (.int .i64 t.gen)∧w'.cell? ⟨ob,1,none⟩=some (.slice A4 t.ax.length a4)∧w'.cell? ⟨ob,2,none⟩=some (.slice D4 t.bN.length d4)∧w'.cell? ⟨ob,3,none⟩=some (.slice F4 t.bU.length f4)) (first | exact hz3 | exact hz2 | exact hz1 | exact hz0) (first
   | (go_at_call 33;refine K6.out.mono ?_;rintro e w7 ⟨rfl,rfl⟩)
   | (go_at_call 34;refine K7.out.mono ?_;rintro e w8 ⟨A8,a8,D8,d8,F8,f8,rfl,g8⟩;have hz1:=fJ (g8.block 7 rfl);have K9:=Lib.hid (mX (a1:=a8) (e1:=d8) (h1:=f8) (a2:=a4) (e2:=d4) (h2:=f4) (jA 0 1 2 rfl rfl rfl) (jA 8 9 10 rfl rfl rfl) (by rw [X1.out];exact (iD Ck.out).1) (by rw [X1.out];exact (iD Ck.out).2.1) (by rw [X1.out];exact (iD Ck.out).2.2) g8);clear g8)
   | (go_at_call 35;refine K9.out.mono ?_;rintro e w9 ⟨rfl,g9⟩;rw [show decide (s1.2.st=t)=true from decide_eq_true X1.out];have hz2:=fJ (g9.block 7 rfl);have TD:=Lib.hid (Wi.out w9 _ g9);clear g9)
   | (go_at_call 51;refine TD.out.mono ?_;rintro e Wj ⟨rfl,g15⟩;have hz3:=fJ (g15.block 7 rfl);have G:=Lib.hid g15.mod;clear g15))
  clear hz0 hz1 hz2 hz3 K6 K7 K9 TD
  go_wp2_with fail
  go_ret
  exact⟨rfl,G.out⟩
 ·have hz0:=fJ ((g14.drewN 1).block 4 rfl)
  have K6:=Lib.hid (jT (g14.drewN 1))
  have K7:=Lib.hid (ig ((g14.drewN 1).aI (R1:=[_,_,_,_,_,_,_,_]) (R2:=[]) [3,0,1,2,4,5,6,7] (by decide) rfl))
  have X5:=Lib.hid x4
  have X6:=Lib.hid x5
  have X7:=Lib.hid x6
  have X8:Hid ((jX (s1.1,s1.2.l):Int)=b):=Lib.hid (by rw [x7,HB.out])
  have qn:=Wm x8 (bH.1 x4.lg.2.2).1.2.2.2.1
  have hwr:=TH x8 (bH.1 x4.lg.2.2).1.2.2.2.1
  have OC:=Lib.hid hwr
  have qe:((s1.1.now.length:Int) == wrap64 ((s1.2.l.m.aa.length:Int)+1))=true:=by rw [hwr];simp
  clear hwr
  have qi:((s1.1.now.length:Int) != IntKind.i64.wrap ((s1.2.l.m.aa.length:Int)+1))=false:=TG x8 (bH.1 x4.lg.2.2).1.2.2.2.1
  have qb:(b != b)=false:=bne_self_eq_false b
  have qz:(z != z)=false:=bne_self_eq_false z
  have X9:=Lib.hid (x9 [])
  clear g14 x4 x5 x6 x7 x8 x9 HB
  go_wp2_with fail
  go_region_held3 (fun w'=>w'.cell? ⟨ob,0,none⟩=some (.int .i64 t.gen)∧w'.cell? ⟨ob,1,none⟩=some (.slice A4 t.ax.length a4)∧w'.cell? ⟨ob,2,none⟩=some (.slice D4 t.bN.length d4)∧w'.cell? ⟨ob,3,none⟩=some (.slice F4 t.bU.length f4)) (first | exact hz7 | exact hz6 | exact hz5 | exact VH | exact hz3 | exact hz2 | exact hz1 | exact hz0) (first
   | (go_at_call 33;refine K6.out.mono ?_;rintro e w7 ⟨rfl,rfl⟩)
   | (go_at_call 34;refine K7.out.mono ?_;rintro e w8 ⟨A8,a8,D8,d8,F8,f8,rfl,g8⟩;have hz1:=fJ (g8.block 7 rfl);have K9:=Lib.hid (mX (a1:=a8) (e1:=d8) (h1:=f8) (a2:=a4) (e2:=d4) (h2:=f4) (jA 0 1 2 rfl rfl rfl) (jA 8 9 10 rfl rfl rfl) (by rw [X1.out];exact (iD Ck.out).1) (by rw [X1.out];exact (iD Ck.out).2.1) (by rw [X1.out];exact (iD Ck.out).2.2) g8);clear g8)
   | (go_at_call 35;refine K14.out.mono ?_;rintro e w15 ⟨rfl,g17⟩;rw [show decide (s1.2.sure=t)=true from decide_eq_true X6.out];have VH:=fJ (g17.block 7 rfl);have K15:=Lib.hid (qK X5.out.lg (g17.aI (R1:=[_,_,_,_,_,_,_,_,_,_,_]) (R2:=[]) [3,4,5,6,7,8,9,10] (by decide) rfl));clear g17)
   | (go_at_call 35;refine K9.out.mono ?_;rintro e w9 ⟨rfl,g9⟩;rw [show decide (s1.2.st=t)=true from decide_eq_true X1.out];have hz2:=fJ (g9.block 7 rfl);have K13:=Lib.hid (Sy (by rw [X6.out];exact Ck.out) (g9.aI (R1:=[_,_,_,_,_,_,_,_,_,_,_]) (R2:=[]) [4,5,6,3,7,8,9,10] (by decide) rfl));clear g9)
   | (go_at_call 36;refine K13.out.mono ?_;rintro e w14 ⟨A9,a9,D9,d9,F9,f9,rfl,g16⟩;have hz3:=fJ (g16.block 7 rfl);have K14:=Lib.hid (mX (a1:=a9) (e1:=d9) (h1:=f9) (a2:=a4) (e2:=d4) (h2:=f4) (jA 0 1 2 rfl rfl rfl) (jA 8 9 10 rfl rfl rfl) (by rw [X6.out];exact (iD Ck.out).1) (by rw [X6.out];exact (iD Ck.out).2.1) (by rw [X6.out];exact (iD Ck.out).2.2) g16);clear g16)
   | (go_at_call 57;refine K15.out.mono ?_;rintro e w16 ⟨rfl,g18⟩;rw [X8.out];have hz5:=fJ (g18.block 4 rfl);have K16:=Lib.hid (sZ g18);have K17:=Lib.hid (IV g18 2 rfl);clear g18)
   | (go_at_call 42;refine K16.out.mono ?_;rintro e w17 ⟨rfl,rfl⟩;rw [X7.out])
   | (go_at_call 45;refine K17.out.mono ?_;rintro e w18 ⟨an,cn,rfl,g19⟩;have hz6:=fJ (g19.block 5 rfl);have K18:=Lib.hid (TF X5.out.lg g19.drop);clear g19)
   | (go_at_call 38;refine K18.out.mono ?_;rintro e w19 ⟨rfl,g20⟩;have hz7:=fJ (g20.block 4 rfl);have G20:=Lib.hid g20;clear g20))
  clear hz0 hz1 hz2 hz3 VH hz5 hz6 hz7 K6 K7 K9 K13 K14 K15 K16 K17 K18
  (try rw [OC.out])
  have g21:=G20.out.aI (R1:=[_,_,_,_,_,_,_,_]) (R2:=[]) [2,4,5,6,7] (by decide) rfl
  have K19:=Lib.hid (Fq (A:=none) (c:=0) (p:=[]) g21 0 rfl (by have:=X2.out;omega) (Src.nil _ _ _) (Nat.zero_le _) (by decide))
  clear g21 G20 X1 X5 X6 X7 X8
  go_wp2_with fail
  refine K19.out.mono ?_
  rintro e w20 ⟨rfl,g22⟩
  have g23:In [] W w20 (bJ bd (iw s1.1 [])::[Cells ob #[.int .i64 t.gen,.slice A4 t.ax.length a4,.slice D4 t.bN.length d4,.slice F4 t.bU.length f4] 62,gG (.slice A4 t.ax.length a4) t.ax,zq (.slice D4 t.bN.length d4) t.bN,BI (.slice F4 t.bU.length f4) t.bU]):=g22
  obtain⟨d',l',y⟩:=X9.out
  have KO:=o_soopen g23 (by have:=X2.out;show s1.1.ops≤_;omega) 3 zs
  rw [y] at KO
  have WV:=Lib.hid KO
  clear g22 g23 K19 KO X2 X9 y qn qi qb qz qe OC
  go_wp2_with fail
  refine WV.out.mono ?_
  intro e w21 hp
  obtain⟨sb5,lb5,aah,rfl,g24⟩:=hp.some rfl
  have hz0:=fJ ((g24.drewN 1).block 4 rfl)
  have K6:=Lib.hid (jT (g24.drewN 1))
  have K7:=Lib.hid (ig ((g24.drewN 1).aI (R1:=[_,_,_,_,_,_,_,_]) (R2:=[]) [3,0,1,2,4,5,6,7] (by decide) rfl))
  clear g24 hp WV
  go_wp2_with fail
  go_region_held3 (fun w'=>w'.cell? ⟨ob,0,none⟩=some (.int .i64 t.gen)∧w'.cell? ⟨ob,1,none⟩=some (.slice A4 t.ax.length a4)∧w'.cell? ⟨ob,2,none⟩=some (.slice D4 t.bN.length d4)∧w'.cell? ⟨ob,3,none⟩=some (.slice F4 t.bU.length f4)) (first | exact hz3 | exact hz2 | exact hz1 | exact hz0) (first
   | (go_at_call 33;refine K6.out.mono ?_;rintro e w7 ⟨rfl,rfl⟩)
   | (go_at_call 34;refine K7.out.mono ?_;rintro e w8 ⟨A8,a8,D8,d8,F8,f8,rfl,g8⟩;have hz1:=fJ (g8.block 7 rfl);have K9:=Lib.hid (mX (s1:=t) (s2:=t) (a1:=a8) (e1:=d8) (h1:=f8) (a2:=a4) (e2:=d4) (h2:=f4) (jA 0 1 2 rfl rfl rfl) (jA 8 9 10 rfl rfl rfl) (iD Ck.out).1 (iD Ck.out).2.1 (iD Ck.out).2.2 g8);clear g8)
   | (go_at_call 35;refine K9.out.mono ?_;rintro e w9 ⟨rfl,g9⟩;simp only [decide_true];have hz2:=fJ (g9.block 7 rfl);have TD:=Lib.hid (Wi.out w9 _ g9);clear g9)
   | (go_at_call 51;refine TD.out.mono ?_;rintro e Wj ⟨rfl,g15⟩;have hz3:=fJ (g15.block 7 rfl);have G:=Lib.hid g15.mod;clear g15))
  clear hz0 hz1 hz2 hz3 K6 K7 K9 TD
  go_wp2_with fail
  go_ret
  exact⟨rfl,G.out⟩
end Go.Proofs.YtogclkhpbjfadaaGreat
