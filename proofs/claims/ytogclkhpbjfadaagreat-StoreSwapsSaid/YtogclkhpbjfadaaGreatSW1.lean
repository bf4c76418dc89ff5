/- Parts of the proof that a store that is swapped for another state is that one, as the format has it, sure. -/
import Derived.Test.YtogclkhpbjfadaaGreatCK4
import Derived.Test.YtogclkhpbjfadaaGreatCK3
import Derived.Lib.SmallJoins
import Derived.Test.YtogclkhpbjfadaaGreatCK5
import Derived.Deep.MidRow
import Derived.LoopTactic
import Derived.Deep.DeepCutAuto
import Derived.Test.YtogclkhpbjfadaaGreatCK9
import Derived.Test.YtogclkhpbjfadaaGreatCK8
import Derived.Test.YtogclkhpbjfadaaGreatCK10
import Derived.Test.YtogclkhpbjfadaaGreatCK11
import Derived.Test.YtogclkhpbjfadaaGreatCK6
import Derived.Test.YtogclkhpbjfadaaGreatCK12
import Derived.Test.YtogclkhpbjfadaaGreatCK32
import Derived.Test.YtogclkhpbjfadaaGreatCK33
import Derived.Test.YtogclkhpbjfadaaGreatCK17
import Derived.Test.YtogclkhpbjfadaaGreatCK40
namespace Go.Proofs.YtogclkhpbjfadaaGreat
open Go.RowKit Go.ChangeShapes Go.WideShapes Go.Deep
open Go.RowKit
set_option linter.unusedVariables false
set_option maxHeartbeats 64000000
set_option maxRecDepth 100000
section
variable {H:Type} {enc:TypeId×Value→H} {P:Program} {w:World} {base:Nat} {spare:Nat→Bool} {held:Bool}
end
section
variable {w0 w:World} {R:List az}
theorem AB.old (h:Own w0 w R) {v:Value} {bs:List UInt8} (hs:AB w0 v bs):AB w v bs:=by
 obtain⟨a,c,h1,h2,h3,h4⟩:=hs.ex
 exact⟨a,c,h1,h2.old h,h3,h4⟩
end
section
variable {H:Type} {enc:TypeId×Value→H} {P:Program} {w:World} {base:Nat} {spare:Nat→Bool} {held:Bool}
theorem ab2 {a:Option Addr} {len cap:Nat} {d:DataW H} {p:List MemPlace} (h:DataW.Trod enc Tryz.prog w base spare held 70 (.slice a len cap) d p):∃ L,Ep w (.slice a len cap) L:=by
 obtain⟨fuel,hf⟩:=h
 obtain⟨v,L,e,hL⟩:=PM hf
 simp [Value.cells] at e
 subst e
 exact⟨L,hL⟩
end
section
variable {w0 w:World} {R:List az}
theorem JF.old (h:Own w0 w R) {v:Value} {l:List Bk} (hs:JF w0 v l):JF w v l:=by
 obtain⟨a,c,h1,h2,h3,h4,h5⟩:=hs.ex
 exact⟨⟨a,c,h1,h2.old h,h3,h4,h5⟩,hs.wf⟩
theorem LV.old (h:Own w0 w R) {cs:List Value} {r:Rec} (hs:LV w0 cs r):LV w cs r:=by
 obtain⟨v,h1,h2,h3⟩:=hs
 exact⟨v,h1,h2.old h,h3⟩
theorem PK.old (h:Own w0 w R) {α:Type} {k:Nat} {Q:World→List Value→α→Prop} (hQ:∀ cs x,Q w0 cs x→Q w cs x) {v:Value} {L:List α} (hs:PK k Q w0 v L):PK k Q w v L:=by
 obtain⟨a,c,h1,h2,h3,h4,h5⟩:=hs.ex
 refine⟨a,c,h1,h2,h3,h4,fun i x hx=>?_⟩
 obtain⟨g,o,cs,e,hq,hc⟩:=h5 i x hx
 exact⟨g,o,cs,e,hQ _ _ hq,fun j u hu=>GN h (hc j u hu)⟩
theorem Ep.old (h:Own w0 w R) {v:Value} {L:List Rec} (hs:Ep w0 v L):Ep w v L:=PK.old h (fun cs x hx=>LV.old h hx) hs
theorem zz.old (h:Own w0 w R) {cs:List Value} {c:oL} (hs:zz w0 cs c):zz w cs c:=by
 obtain⟨v,vr,vp,h1,h2,h3,h4,h5⟩:=hs
 exact⟨v,vr,vp,h1,h2.old h,h3,Ep.old h h4,h5.old h⟩
end
section
variable {c:oL} {ab ar ap:Option Addr} {cb cr cp:Nat} {r:Rec}
theorem acf:(rT c ab cb ar cr ap cp).toArray[16]?=some (.slice ar c.rows.length cr):=rfl
theorem ab3:(Nh r ab cb).toArray[10]?=some (.slice ab r.ax.length cb):=rfl
theorem abV:(Nh r ab cb).toArray.all (·.oneCell')=true:=by simp [Nh,aF,Value.oneCell']
end
section
variable {F0:List Nat} {w0 w:World} {R:List az}
theorem ab4 (h:In F0 w0 w R) (r:Rec) (ab:Option Addr) (cb:Nat):(w.alloc (.cells abb 69)).there w.heap.size 0 14∧In F0 w0 ((w.alloc (.cells abb 69)).setCells w.heap.size 0 (Nh r ab cb).toArray.toList) (Cells w.heap.size (Nh r ab cb).toArray 69::R):=by
 have g1:=h.cells abb 69
 exact⟨fG (g1.block 0 rfl),g1.gp 0 rfl (xs:=Nh r ab cb) (b:=w.heap.size) (C:=abb) (T:=69) rfl⟩
end
section
variable {w0 w:World} {R:List az}
theorem abW {cs:List oL} (h:In [] w0 w R):YT cs w0 R (.returned (.bool false)) w:=⟨false,rfl,(fun e=>by cases e),h⟩
theorem abS {rs:List Rec} {j:Nat} {y:Rec} (hy:rs[j]?=some y) (hall:∀ r∈rs.take j,r.ax.length≤40) (hb:y.ax.length≤40) (ho:In [] w0 w R):aar rs w0 R (.int .i64 ((j:Int)+1)) w:=by
 have hj:=(List.getElem?_eq_some_iff.1 hy).1
 refine⟨j+1,hj,by rw [Int.natCast_add];rfl,fun r hr=>?_,ho⟩
 rw [List.take_add_one,hy] at hr
 rcases List.mem_append.1 hr with hr | hr
 ·exact hall r hr
 ·simp at hr;subst hr;exact hb
theorem abY {cs:List oL} {k:Nat} {x:oL} (hx:cs[k]?=some x) (hk:¬ 60≤k) (hall:∀ c∈cs.take k,PR c) (hc:PR x) (ho:In [] w0 w R):aaW cs w0 R (.int .i64 ((k:Int)+1)) w:=by
 have hj:=(List.getElem?_eq_some_iff.1 hx).1
 refine⟨k+1,hj,by omega,by rw [Int.natCast_add];rfl,fun r hr=>?_,ho⟩
 rw [List.take_add_one,hx] at hr
 rcases List.mem_append.1 hr with hr | hr
 ·exact hall r hr
 ·simp at hr;subst hr;exact hc
theorem ack {v:Value} {cs:List oL} (h:In [] w0 w R) (hv:nM w0 v cs):Calls Tryz.prog 28 #[v] w (YT cs w0 R):=by
 obtain⟨a,cap,rfl,hc1,hc2,hcn,hc⟩:=hv.ex
 unfold maxLen at hc2
 have HC:=Lib.hid hc
 have HR:Hid (aaW cs w0 R (.int .i64 0) w):=Lib.hid ⟨0,Nat.zero_le _,Nat.zero_le _,rfl,by simp,h⟩
 clear h hv hc hcn
 go_enter Tryz.func28,Tryz.ntmps28
 go_wp2_with fail
 go_loopw [9] (aaW cs w0 R) (fun k _=>cs.length - (intOf k).toNat)
 case atStart=>exact HR.out
 case round=>
  obtain⟨k,hk,acB,rfl,hall,ho⟩:=hrel
  clear HR
  by_cases hlt:k < cs.length
  ·obtain⟨x,hx⟩:∃ x,cs[k]?=some x:=⟨cs[k],List.getElem?_eq_getElem hlt⟩
   obtain⟨g,o,csx,rfl,hcr,hcell⟩:=HC.out k x hx
   obtain⟨ab,cb,ar,cr,ap,cp,rfl,_,_,hbl,_,hvr,_,hrl⟩:=Ug hcr
   obtain⟨ar',cr',er,hr1,hr2,hr3,hr⟩:=hvr.ex
   cases er
   have hlt':(k:Int) < (cs.length:Int):=by omega
   have hw2:wrap64 ((k:Int)+1)=(k:Int)+1:=by unfold wrap64;omega
   have HRG:=Lib.hid (Nk ho hcell)
   obtain⟨hth,h4⟩:=PO ho x ab cb ar cr ap cp
   have HTH:=Lib.hid hth
   unfold maxLen at hbl hrl
   obtain⟨w4,hw4⟩:∃ w4,w4=(wr.alloc (.cells GQ 72)).setCells wr.heap.size 0 (rT x ab cb ar cr ap cp).toArray.toList:=⟨_,rfl⟩
   rw [← hw4] at h4
   have c12:w4.cell? ⟨wr.heap.size,12,none⟩=some (.slice ab x.r.ax.length cb):=cell_of (h4.block 0 rfl) PN
   have c16:w4.cell? ⟨wr.heap.size,16,none⟩=some (.slice ar x.rows.length cr):=cell_of (h4.block 0 rfl) acf
   have H4:=Lib.hid h4
   have HW4:=Lib.hid hw4
   have HNO:Hid (YT cs w0 R (.returned (.bool false)) w4):=Lib.hid (abW h4.drop)
   have YF:=Lib.hid (And.intro hall hx)
   have HVR:=Lib.hid hr
   have HLEN:Hid (x.rows.length < 9223372036854775808∧x.r.ax.length < 9223372036854775808):=Lib.hid ⟨by omega,by omega⟩
   clear ho h4 hvr hr hall hx hlt hcell hcr hw4 hth hr1 hr2 hr3 hc1
   go_upto_region 3 with fail
   go_cut [3,4] (fun x3 x4 wx=>x3=.int .i64 k∧x4=.pointer (some ⟨wr.heap.size,0,none⟩)∧wx=w4)
   case first=>
    have hzz:(.cells #[.int .i64 0,.int .i64 0,.int .i64 0,.int .u32 0,.int .u32 0,.int .i64 0,.int .i64 0,.int .i64 0,.int .i64 0,.int .i64 0,.int .i64 0,.int .i64 0,.slice none 0 0,.int .i64 0,.int .i64 0,.int .i64 0,.slice none 0 0,.slice none 0 0] 72:Obj)=.cells GQ 72:=rfl
    go_wp2_with (first | (refine wpList_load_mid (by rfl) 72 (.tmp 12) rfl g (o+k * 18) rfl (rT x ab cb ar cr ap cp) _ HRG.out Tryz.underlying72 rfl (by kernel_rfl) ?_) | (refine wpList_store_mid (by rfl) 72 (.tmp 4) (.tmp 13) rfl wr.heap.size 0 (rT x ab cb ar cr ap cp).toArray (by rfl) (by rfl) HTH.out (by kernel_rfl) Ni ?_))
    go_meet
    exact⟨rfl,rfl,HW4.out.symm⟩
   case rest=>
   obtain⟨rfl,rfl,rfl⟩:=hcut
   clear HRG HTH HW4
   by_cases q1:60≤k
   ·have q1':(60:Int)≤(k:Int):=by omega
    clear q1
    go_wp2_with fail
    go_ret
    exact HNO.out
   have q1':decide ((60:Int)≤(k:Int))=false:=by simp;omega
   by_cases q2:30 < x.rows.length
   ·have q2':(30:Int) < (x.rows.length:Int):=by omega
    clear q2
    go_wp2_with fail
    go_ret
    exact HNO.out
   have q2':decide ((30:Int) < (x.rows.length:Int))=false:=by simp;omega
   by_cases q3:40 < x.r.ax.length
   ·have q3':(40:Int) < (x.r.ax.length:Int):=by omega
    clear q3
    go_wp2_with fail
    go_ret
    exact HNO.out
   have q3':decide ((40:Int) < (x.r.ax.length:Int))=false:=by simp;omega
   have HR2:Hid (aar x.rows w0 R (.int .i64 0) wc):=Lib.hid ⟨0,Nat.zero_le _,rfl,by simp,H4.out.drop⟩
   clear HNO H4
   generalize wr.heap.size=fb at *
   go_wp2_with fail
   go_loopw [32] (aar x.rows w0 R) (fun j _=>x.rows.length - (intOf j).toNat)
   case atStart=>exact HR2.out
   case round=>
    obtain⟨j,hj,rfl,ab5,hoj⟩:=hrel
    clear HR2 c12 c16
    by_cases acs:j < x.rows.length
    ·obtain⟨y,hy⟩:∃ y,x.rows[j]?=some y:=⟨x.rows[j],List.getElem?_eq_getElem acs⟩
     obtain⟨abG,oy,csy,rfl,hyr,hcy⟩:=HVR.out j y hy
     obtain⟨abF,cy,rfl,_,_,hyl,_⟩:=Xi hyr
     have acu:(j:Int) < (x.rows.length:Int):=by omega
     have hw3:wrap64 ((j:Int)+1)=(j:Int)+1:=by have:=HLEN.out.1;unfold wrap64;omega
     have HRY:=Lib.hid (Nk hoj hcy)
     obtain⟨hth,h6⟩:=ab4 hoj y abF cy
     have HTY:=Lib.hid hth
     unfold maxLen at hyl
     obtain⟨w6,hw6⟩:∃ w6,w6=(wr.alloc (.cells abb 69)).setCells wr.heap.size 0 (Nh y abF cy).toArray.toList:=⟨_,rfl⟩
     rw [← hw6] at h6
     have d10:w6.cell? ⟨wr.heap.size,10,none⟩=some (.slice abF y.ax.length cy):=cell_of (h6.block 0 rfl) ab3
     have HW6:=Lib.hid hw6
     have acy:Hid (YT cs w0 R (.returned (.bool false)) w6):=Lib.hid (abW h6.drop)
     have HYJ:=Lib.hid (And.intro ab5 hy)
     have H6:=Lib.hid h6
     clear hoj h6 hyr hcy ab5 hy acs hw6 hth
     go_upto_region 8 with fail
     go_cut [6] (fun x6 wx=>x6=.pointer (some ⟨wr.heap.size,0,none⟩)∧wx=w6)
     case first=>
      go_wp2_with (first | (refine wpList_load_mid (by rfl) 69 (.tmp 34) rfl abG (oy+j * 14) rfl (Nh y abF cy) _ HRY.out Tryz.underlying69 rfl (by kernel_rfl) ?_) | (refine wpList_store_mid (by rfl) 69 (.tmp 6) (.tmp 35) rfl wr.heap.size 0 (Nh y abF cy).toArray (by rfl) (by rfl) HTY.out (by kernel_rfl) abV ?_))
      go_meet
      exact⟨rfl,HW6.out.symm⟩
     case rest=>
     obtain⟨rfl,rfl⟩:=hcut
     clear HRY HTY HW6
     by_cases q4:40 < y.ax.length
     ·have q4':(40:Int) < (y.ax.length:Int):=by omega
      clear q4
      go_wp2_with fail
      go_ret
      exact acy.out
     have q4':decide ((40:Int) < (y.ax.length:Int))=false:=by simp;omega
     have HRN:Hid (aar x.rows w0 R (.int .i64 ((j:Int)+1)) wc):=Lib.hid (abS HYJ.out.2 HYJ.out.1 (Nat.le_of_not_lt q4) H6.out.drop)
     clear acy H6 HYJ
     go_wp2_with fail
     go_roundw
     case rel=>(try rw [hw3]);exact HRN.out
     case measure=>(try rw [hw3]);exact dV acu
    ·have acF:(x.rows.length:Int)≤(j:Int):=by omega
     obtain rfl:j=x.rows.length:=by omega
     have HRN:Hid (aaW cs w0 R (.int .i64 ((k:Int)+1)) wr):=Lib.hid (abY YF.out.2 q1 YF.out.1 ⟨Nat.le_of_not_lt q2,Nat.le_of_not_lt q3,by rw [List.take_length] at ab5;exact ab5⟩ hoj)
     clear hoj ab5 acs
     go_wp2_with fail
     go_roundw
     case rel=>(try rw [hw2]);exact HRN.out
     case measure=>(try rw [hw2]);exact dV hlt'
  ·have hge:(cs.length:Int)≤(k:Int):=by omega
   obtain rfl:k=cs.length:=by omega
   have HF:Hid (YT cs w0 R (.returned (.bool true)) wr):=Lib.hid ⟨true,rfl,fun _=>⟨acB,by rw [List.take_length] at hall;exact hall⟩,ho⟩
   clear ho hall hlt
   go_wp2_with fail
   go_ret
   exact HF.out
end
theorem kL.frames {N:gF} {fs:List FileD} {aa:List Nat} {aj:Nat} {Fr:List cB} {s:Nat} (h:kL N fs aa aj Fr s):∀ f∈Fr,jI f∧f.aj=aj:=by
 obtain⟨C,L,k,h1,rfl,h3⟩:=h
 exact h1.ok
theorem iF.uC {s:SD} {Fr:List cB} {k:Nat} (h:iF s Fr k Fr k) (p:List UInt8) :
  ∃ m0 j,k≤j∧j≤Fr.length∧m0.aj=s.2.l.m.aj∧nV (iw s.1 p) m0 (Fr.take j):=by
 have hfr:=h.log.now.2.2.frames
 rcases h.log with ⟨h1,h2⟩|⟨hl,h2⟩
 ·obtain⟨j,j1,j2,j3⟩:=(h2.now.congr (h2.st _ (qj s.1 p)) (fun _ _ _ _=>rfl)).uC h2.ok p
  exact⟨_,j,j1,j2,rfl,j3⟩
 ·rcases h2.st _ (qj s.1 p) with h3 | ⟨m0,h3⟩
  ·obtain⟨j,j1,j2,j3⟩:=(h2.now.congr h3 (fun _ _ _ _=>rfl)).uC h2.ok p
   exact⟨_,j,j1,j2,rfl,j3⟩
  ·obtain⟨j,j1,j2,j3⟩:=h3.uC h2.ok p
   refine⟨m0,j,j1,j2,?_,j3⟩
   obtain⟨f,hf⟩:=List.exists_mem_of_ne_nil _ (h.ne hl)
   rw [← (h3.2.2.frames f hf).2,(hfr f hf).2]
theorem acg:bs0.2.1.isSome=true∧bs0.2.2=0∧bs1.2=0∧bs2.2=0∧bs3.2=0∧bs5.2.1.isSome=true∧bs5.2.2=0∧(bs5.2.1.getD default).sure.bU.length=1∧DU bsS.2.l=true∧DU bs1.1.2.l=true∧DU bs2.1.2.l=true∧bsS.1.ops≤1000∧bs1.1.1.ops≤1000∧bs2.1.1.ops≤1000∧bs3.1.1.ops≤1000∧bs4.ops≤1000:=by decide +kernel
theorem acn {n b:Int} (h0:0≤n) (h1:n < 4294967296):mQ (rP n b):=⟨by constructor <;> simp [rP] <;> omega,by simp [rP]⟩
theorem abZ {v z:Int} {d:ae} {so:pK} (h:(nW v z d).2.1=some so):so.sure=so.st:=by
 unfold nW at h
 split at h
 ·cases h
 ·split at h
  ·cases h
  ·split at h
   ·cases h
   ·simp only [Option.some.injEq] at h
    subst h;rfl
section
variable {F0:List Nat} {w0 w:World} {R:List az}
theorem abQ {d:ae} {bd:Nat} (h:In F0 w0 w (bJ bd d::R)) (ho:d.ops≤100000000) :
  Calls Tryz.prog 26 #[aD bd,.slice none 0 0] w fun e w'=>e=.returned (.tuple #[])∧In F0 w0 w' (bJ bd (iw d [])::R):=
 Gw h 0 rfl (bJ.aA _ _) fun F G hF hG hap hfr=>XM (p:=[]) (A:=none) (c:=0) hF ho ⟨fun w' hw'=>Src.nil _ _ _,Nat.le_refl _,by unfold maxLen;omega⟩
theorem ab6 (x0 x1 x2 x3:Value) (w:World):(Instr.field 62 (.agg #[x0,x1,x2,x3]) 3).run Tryz.prog w=.ok x3 w:=by kernel_rfl
theorem acC (n b:Int):(#[.int .i64 1,.int .u32 n,.int .u32 0,.int .i64 6,.int .i64 0,.int .i64 0,.int .i64 b,.int .i64 0,.int .i64 0,.int .i64 0,.slice none 0 0,.int .i64 0,.int .i64 0,.int .i64 0]:Array Value).all (·.oneCell')=true:=by simp [Value.oneCell']
theorem ab7 (n b:Int) (hn:IntKind.u32.wrap n=n) (h:In F0 w0 w R):Calls Tryz.prog 98 #[.int .i64 n,.int .i64 b] w fun e w'=>e=.returned (uy (rP n b) none 0)∧In F0 w0 w' R:=by
 have g1:=h.cells #[.int .i64 0,.int .u32 0,.int .u32 0,.int .i64 0,.int .i64 0,.int .i64 0,.int .i64 0,.int .i64 0,.int .i64 0,.int .i64 0,.slice none 0 0,.int .i64 0,.int .i64 0,.int .i64 0] 69
 have Q1:=Lib.hid (fG (g1.block 0 rfl))
 have G:=Lib.hid (g1.gp 0 rfl (xs:=[.int .i64 1,.int .u32 n,.int .u32 0,.int .i64 6,.int .i64 0,.int .i64 0,.int .i64 b,.int .i64 0,.int .i64 0,.int .i64 0,.slice none 0 0,.int .i64 0,.int .i64 0,.int .i64 0]) (b:=w.heap.size) (C:=#[.int .i64 0,.int .u32 0,.int .u32 0,.int .i64 0,.int .i64 0,.int .i64 0,.int .i64 0,.int .i64 0,.int .i64 0,.int .i64 0,.slice none 0 0,.int .i64 0,.int .i64 0,.int .i64 0]) (T:=69) rfl)
 clear h g1
 go_enter Tryz.func98,Tryz.ntmps98
 go_wp2_with (refine wpList_store_mid (op:=⟨none,Op.store 69 (.tmp 4) (.tmp 10),_,_,_,_⟩) (by rfl) 69 (.tmp 4) (.tmp 10) rfl w.heap.size 0 #[.int .i64 1,.int .u32 n,.int .u32 0,.int .i64 6,.int .i64 0,.int .i64 0,.int .i64 b,.int .i64 0,.int .i64 0,.int .i64 0,.slice none 0 0,.int .i64 0,.int .i64 0,.int .i64 0] (by rfl) (by rfl) Q1.out (by kernel_rfl) (acC n b) ?_)
 exact bodyPost_ret (results_cell_row Tryz.results98 _ _ w.heap.size 69 _ (0,0) _ rfl (G.out.block 0 rfl) Tryz.underlying69 rfl (by kernel_rfl)) rfl ⟨rfl,G.out.drop⟩
theorem ab8 (h:In F0 w0 w R):Calls Tryz.prog 29 #[] w fun e w'=>e=.returned (.bool true)∧In F0 w0 w' R:=by
 obtain⟨f1,f2,f3,f4,f5,f6,f7,f8,l1,l2,l3,o1,o2,o3,o4,o5⟩:=acg
 have K0:=Lib.hid (QZ h 5000 (by omega) (by omega))
 have K1:=Lib.hid (fun bd w' (h':In F0 w0 w' (bJ bd (jF 5000)::R))=>o_socreate h' (by decide) 3 200)
 have KP1:=Lib.hid (fun w' (R':List az) (h':In F0 w0 w' R')=>ab7 1 7 rfl h')
 have KP2:=Lib.hid (fun w' (R':List az) (h':In F0 w0 w' R')=>ab7 2 8 rfl h')
 have K2:=Lib.hid (fun sb lb bd dz w' (h':In F0 w0 w' (oG sb lb bd dz bsS R))=>uq (A:=none) (c:=0) (r:=rP 1 7) (xm l1) (by omega) (fun _ _=>Src.nil _ _ _) (fun _=>rfl) (by decide) (acn (by decide) (by decide)) h')
 have K3:=Lib.hid (fun sb lb bd dz w' (h':In F0 w0 w' (oG sb lb bd dz bs1.1 R))=>Sz (xm l2) (by omega) h')
 have K4:=Lib.hid (fun sb lb bd dz w' (h':In F0 w0 w' (oG sb lb bd dz bs2.1 R))=>uq (A:=none) (c:=0) (r:=rP 2 8) (xm l3) (by omega) (fun _ _=>Src.nil _ _ _) (fun _=>rfl) (by decide) (acn (by decide) (by decide)) h')
 have K5:=Lib.hid (fun bd w' (h':In F0 w0 w' (bJ bd bs3.1.1::R))=>abQ h' (by omega))
 have K6:=Lib.hid (fun bd w' (h':In F0 w0 w' (bJ bd bs4::R))=>o_soopen h' (by omega) 3 200)
 have zm:Hid (bs0.2.1=some bsS.2):=Lib.hid (by
  show _=some (bs0.2.1.getD default)
  cases e:bs0.2.1 with
  | none=>rw [e] at f1;cases f1
  | some l=>rfl)
 have HS5:Hid (bs5.2.1=some (bs5.2.1.getD default)):=Lib.hid (by
  cases e:bs5.2.1 with
  | none=>rw [e] at f6;cases f6
  | some l=>rfl)
 have E0:=Lib.hid f2
 have E1:=Lib.hid f3
 have E2:=Lib.hid f4
 have E3:=Lib.hid f5
 have E5:=Lib.hid f7
 have E8:=Lib.hid f8
 clear h f1 f2 f3 f4 f5 f6 f7 f8 l1 l2 l3 o1 o2 o3 o4 o5
 go_enter Tryz.func29,Tryz.ntmps29
 go_wp2_with fail
 refine K0.out.mono ?_
 rintro e w1 ⟨bd,rfl,g1⟩
 have C1:=Lib.hid (K1.out bd w1 g1)
 clear g1 K0 K1
 go_wp2_with fail
 refine C1.out.mono ?_
 intro e w2 hp
 obtain⟨sb,lb,dz,rfl,g2⟩:=hp.some zm.out
 rw [show createS 3 200 (jF 5000)=bs0 from rfl,E0.out]
 have C2:=Lib.hid (KP1.out w2 _ g2)
 clear g2 hp C1 KP1
 go_wp2_with fail
 refine C2.out.mono ?_
 rintro e w3 ⟨rfl,g3⟩
 have C3:=Lib.hid (K2.out sb lb bd dz w3 g3)
 clear g3 C2 K2
 go_wp2_with fail
 refine C3.out.mono ?_
 rintro e w4 ⟨rfl,g4⟩
 rw [show bG (rP 1 7) bsS=bs1 from rfl,E1.out]
 have C4:=Lib.hid (K3.out sb lb bd dz w4 g4)
 clear g4 C3 K3
 go_wp2_with fail
 refine C4.out.mono ?_
 rintro e w5 ⟨rfl,g5⟩
 rw [show iN bs1.1=bs2 from rfl,E2.out]
 have C5:=Lib.hid (KP2.out w5 _ g5)
 clear g5 C4 KP2
 go_wp2_with fail
 refine C5.out.mono ?_
 rintro e w6 ⟨rfl,g6⟩
 have C6:=Lib.hid (K4.out sb lb bd dz w6 g6)
 clear g6 C5 K4
 go_wp2_with fail
 refine C6.out.mono ?_
 rintro e w7 ⟨rfl,g7⟩
 rw [show bG (rP 2 8) bs2.1=bs3 from rfl,E3.out]
 have C7:=Lib.hid (K5.out bd w7 (g7.aI (R1:=[_,_,_,_]) [2] (by decide) rfl))
 clear g7 C6 K5
 go_wp2_with fail
 refine C7.out.mono ?_
 rintro e w8 ⟨rfl,g8⟩
 have C8:=Lib.hid (K6.out bd w8 g8)
 clear g8 C7 K6
 go_wp2_with fail
 refine C8.out.mono ?_
 intro e w9 hp
 obtain⟨sb5,lb5,aah,rfl,g9⟩:=hp.some HS5.out
 rw [show nW 3 200 bs4=bs5 from rfl] at g9 ⊢
 rw [E5.out]
 have hok:fU (bs5.2.1.getD default).sure:=by
  rw [abZ (v:=3) (z:=200) (d:=bs4) HS5.out]
  exact (g9.aI (R1:=[_,_,_,_]) [3] (by decide) rfl).ny.1
 have C9:=Lib.hid (Sy hok g9)
 clear g9 hp C8 hok
 go_wp2_with fail
 refine C9.out.mono ?_
 rintro e Co ⟨A,a,D,d,F,f,rfl,g10⟩
 have G:=Lib.hid (g10.aI (R1:=[_,_,_,_,_,_,_]) [] (by decide) rfl)
 clear g10 C9
 have q8:(((bs5.2.1.getD default).sure.bU.length:Int) == 1)=true:=by rw [E8.out];rfl
 have hfd:=ab6
 dsimp only [Ct]
 go_wp2_with fail
 go_ret
 exact⟨rfl,G.out⟩
end
def abM (s:fP) (r:Rec):fP:=if r.ax.length≤40 then (aX s r).1 else s
def abN (l:List Rec):fP:=l.foldl abM aJ
theorem abP (l:List Rec) (k:Nat) (r:Rec) (h:l[k]?=some r):abN (l.take (k+1))=abM (abN (l.take k)) r:=by
 unfold abN
 rw [List.take_add_one,h,Option.toList_some,List.foldl_append];rfl
def abK (s:fP):Nat:=s.bN.length+s.bU.length
theorem abT (s:fP) (r:Rec):abK (aX s r).1≤abK s+1:=by
 have hd:abK (lG s r)≤abK s+1:=by
  unfold lG
  split
  ·show s.bN.length+(stPutF r.fl s.bU).length≤s.bN.length+s.bU.length+1
   have:=CQ r.fl s.bU;omega
  ·split
   ·show s.bN.length+(kH r.fl.t s.bU).length≤s.bN.length+s.bU.length+1
    have:(kH r.fl.t s.bU).length≤s.bU.length:=List.length_filter_le _ _
    omega
   ·split
    ·exact Nat.le_add_right _ _
    ·split
     ·show (stPutD r.bk r.till s.bN).length+s.bU.length≤s.bN.length+s.bU.length+1
      have:=CU r.bk r.till s.bN;omega
     ·split
      ·show (kI r.bk s.bN).length+s.bU.length≤s.bN.length+s.bU.length+1
       have:(kI r.bk s.bN).length≤s.bN.length:=List.length_filter_le _ _
       omega
      ·exact Nat.le_add_right _ _
 unfold aX
 split
 ·exact Nat.le_add_right _ _
 ·split
  ·exact Nat.le_add_right _ _
  ·exact hd
theorem ab9 (l:List Rec):∀ (s:fP),abK (l.foldl abM s)≤abK s+l.length:=by
 induction l with
 | nil=>intro s;exact Nat.le_refl _
 | cons r l ih=>
  intro s
  have h1:=ih (abM s r)
  have h2:abK (abM s r)≤abK s+1:=by
   unfold abM
   split
   ·exact abT s r
   ·exact Nat.le_add_right _ _
  show abK (l.foldl abM (abM s r))≤abK s+(l.length+1)
  omega
theorem aca (z:Nat) (s:Nat×Nat) (b:Nat):(vK z s b).1≤s.1+1:=by
 unfold vK
 split
 ·omega
 ·split
  ·exact Nat.le_add_right _ _
  ·exact Nat.le_refl _
theorem abX (z:Nat):∀ (l:List (List UInt8)) (s:Nat×Nat),(vL z l s).1≤s.1+l.length
 | [],s=>Nat.le_refl _
 | b::l,s=>by
  have h1:=abX z l (vK z s b.length)
  have h2:=aca z s b.length
  show (vL z l (vK z s b.length)).1≤s.1+(l.length+1)
  omega
theorem ab0 (s:fP):eP 3 s=s:=by
 obtain⟨g,b,d,f⟩:=s
 unfold eP
 have h1:fF 3=id:=by funext x;unfold fF;rw [if_neg (by decide)];rfl
 have h2:oC 3=id:=by funext x;unfold oC;rw [if_neg (by decide),if_neg (by decide)];rfl
 rw [h1,h2];simp
theorem ab1 {s:SD} {v:Int} {st:fP} (hl:gH s.2.l) (hok:fU st) (hv:dQ v=true):(dx v st s).1.1.ops≤s.1.ops+2000:=by
 unfold dx
 split
 ·show s.1.ops≤_;omega
 ·have hb:∀ b∈(cK v st).map ak,b.length≤5000:=by
   intro b hb
   obtain⟨f,hf,rfl⟩:=List.mem_map.1 hb
   have:=(rows_ok hok hv f hf).1.body
   rw [dD];omega
  have:=LB (aj:=v.toNat) (d:=s.1) hl hb
  have hn:=nO hok
  simp only [cK,List.length_map] at this
  show (gM _ _ (s.1,s.2.l)).1.1.ops≤_
  simp only [cK]
  omega
theorem abU {v tv:Int} {s:SD} {size:Int} (h:oH 60 (sized size) v s) (hv:1≤v) (hto:v≤tv∧tv≤3) {t:fP} (ht:fU t) (hc:abK t≤40) :
  dx (v - 1) t s=(s,10)∧dx 4 t s=(s,10)∧Wd s 2200∧∀ s1,s1=(dx tv t s).1→(dx tv t s).2=0∧(s1.2.l.m.aj:Int)=tv∧s1.2.sure=eP tv t∧s1.2.st=eP tv t∧s1.1.ops≤4200 ∧
   ∀ p,∃ d' l',nW 3 size (iw s1.1 p)=(d',some ⟨l',eP tv t,eP tv t⟩,0)∧(l'.m.aj:Int)=tv:=by
 have hz:=Cf size
 have c:=h.cp
 have r0:Wd s 2200:=c.rdy hz (by have:=h.su.ops;omega)
 have mr:=c.aj
 obtain⟨⟨Fr,k,hi⟩,hl,hr,ho,hsz,_,hf,hn⟩:=c
 have hvk:dQ tv=true:=by unfold dQ;simp;omega
 refine⟨by unfold dx;rw [if_pos (Or.inl (by omega))],by unfold dx;rw [if_pos (Or.inr (by omega))],r0,fun s1 e1=>?_⟩
 obtain⟨a1,a2⟩:=hi.swap (v:=tv) ht ⟨by omega,hto.2⟩
 have hne:cK tv t≠[]:=by unfold cK aM;simp
 have hlen:=xz ht hvk
 have b:=VX (B:=60000) (n:=60) (hi.EN hl) hl ho (aj:=tv.toNat) (by omega) (rows_ok ht hvk) hne (hr.le (by omega) (by omega)) (by omega)
 rw [show gM tv.toNat ((cK tv t).map ak) (s.1,s.2.l)=gV tv t s from rfl] at b
 have e2:(dx tv t s).2=(gV tv t s).2:=by
  unfold dx
  rw [if_neg (by omega)]
 have hcnt:(vL s.2.l.size ((cK tv t).map ak) (0,0)).1≤64:=by
  have h1:=abX s.2.l.size ((cK tv t).map ak) (0,0)
  have h2:((cK tv t).map ak).length=1+abK t:=by
   unfold cK aM abK
   simp;omega
  rw [h2] at h1
  simp only at h1
  omega
 have h0:(dx tv t s).2=0:=by
  rcases b with b | ⟨_,b⟩
  ·rw [e2];exact b.ok
  ·omega
 rcases a2 with ⟨_,g1,g2,g3,g4,g5⟩|⟨g,_⟩
 case inr=>exact absurd h0 g
 have o1:s1.1.ops≤4200:=by
  have:=ab1 (s:=s) r0.lg ht hvk
  rw [← e1] at this
  have:=r0.ops;omega
 rw [← e1] at g1 g2 g3 g4 g5
 refine⟨h0,g2,g3,g5,o1,fun p=>?_⟩
 obtain⟨m0,j,j1,j2,j3,j4⟩:=g4.uC p
 rw [List.take_of_length_le j1] at j4
 obtain⟨d',e,_⟩:=Mf j4 rfl (Ar ht hvk) (ht.eP tv) size (aj:=3) ⟨by rw [j3];omega,by omega⟩
 exact⟨d',_,e,by show (m0.aj:Int)=tv;rw [j3];exact g2⟩
end Go.Proofs.YtogclkhpbjfadaaGreat
