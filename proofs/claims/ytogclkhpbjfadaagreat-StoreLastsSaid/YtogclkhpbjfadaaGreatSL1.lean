/- Parts of the proof that behind any crash a store's state is the sure one and a beginning of what was written since. -/
import Derived.Test.YtogclkhpbjfadaaGreatCK1
import Derived.ProofKit
import Derived.SliceStrings
import Derived.Deep.Slices
import Derived.Deep.Fields
import Derived.Test.YtogclkhpbjfadaaGreatCK4
import Derived.Test.YtogclkhpbjfadaaGreatCK3
import Derived.Lib.SmallJoins
import Derived.Test.YtogclkhpbjfadaaGreatCK5
import Derived.Deep.MidRow
import Derived.LoopTactic
import Derived.Deep.DeepCutAuto
import Derived.Test.YtogclkhpbjfadaaGreatCK8
import Derived.Test.YtogclkhpbjfadaaGreatCK9
import Derived.Test.YtogclkhpbjfadaaGreatCK10
import Derived.Test.YtogclkhpbjfadaaGreatCK11
import Derived.Test.YtogclkhpbjfadaaGreatCK6
import Derived.Test.YtogclkhpbjfadaaGreatCK12
import Derived.Test.YtogclkhpbjfadaaGreatCK15
import Derived.Deep.QuietTactic
import Derived.BigQuiet
import Derived.WalkSpells
import Derived.Deep.RegionLaw
import Derived.Maps.AppendAt
import Derived.StillTailTactics
import Derived.Deep.RegionHeld3
import Derived.Laws.Externs
import Derived.Shelf.SlMaps.Clone
import Derived.Test.YtogclkhpbjfadaaGreatCK16
import Derived.Test.YtogclkhpbjfadaaGreatCK30
import Derived.Test.YtogclkhpbjfadaaGreatCK32
import Derived.Test.YtogclkhpbjfadaaGreatCK28
import Derived.Test.YtogclkhpbjfadaaGreatCK33
import Derived.Test.YtogclkhpbjfadaaGreatCK17
import Derived.Test.YtogclkhpbjfadaaGreatCK37
namespace Go.Proofs.YtogclkhpbjfadaaGreat
open Go.RowKit Go.ChangeShapes Go.WideShapes Go.Deep
open Go.RowKit
open Go.Maps (Keyed)
set_option linter.unusedVariables false
set_option maxHeartbeats 64000000
set_option maxRecDepth 100000
section
variable {H:Type} {enc:TypeId×Value→H} {P:Program} {w:World} {base:Nat} {spare:Nat→Bool} {held:Bool}
theorem acr {T E:TypeId} {k:IntKind} (ht:P.underlying T=some (.slice E)) (he:P.underlying E=some (.int k)) (hc:P.cellsOf E=1) {a:Option Addr} {len cap:Nat} {d:DataW H} {p:List MemPlace}
  (h:DataW.Trod enc P w base spare held T (.slice a len cap) d p):∃ zs,aak k w a len cap zs:=by
 obtain⟨fuel,hf⟩:=h
 rcases open_ints ht he hc hf with ⟨hcs,_⟩|⟨x,l,c,zs,hcs,_,hl,hm,hz,_,hcell,hws⟩
 ·simp [Value.cells] at hcs
  obtain⟨rfl,rfl,rfl⟩:=hcs
  exact⟨[],rfl,Nat.le_refl _,Nat.zero_le _,by simp,Or.inl rfl⟩
 ·simp [Value.cells] at hcs
  obtain⟨rfl,rfl,rfl⟩:=hcs
  have hle:len≤zs.length:=by rw [hz];split <;> omega
  refine⟨zs.take len,by simp;omega,hl,hm,fun s hs=>hws s (List.mem_of_mem_take hs),?_⟩
  by_cases h0:len=0
  ·exact Or.inl h0
  ·have h1:=hcell 0 (by omega)
   have e:=CL h1
   rw [e] at hcell ⊢
   refine Or.inr ⟨_,_,rfl,?_,fun i hi=>?_⟩
   ·have:=World.block_lt_of_cell? _ _ h1;simpa [Addr.add] using this
   ·have hi':i < zs.length:=by simp at hi;omega
    have:=hcell i hi'
    rw [add_plain] at this
    rw [this];simp [hi']
end
section
variable {H:Type} {enc:TypeId×Value→H} {P:Program} {w:World} {base:Nat} {spare:Nat→Bool} {held:Bool}
theorem ace {T B:TypeId} (he:P.underlying T=some (.slice B)) (hb:P.underlying B=some (.int .u8)) (hcb:P.cellsOf B=1) {a:Option Addr} {len cap:Nat} {d:DataW H} {p:List MemPlace}
  (h:DataW.Trod enc P w base spare held T (.slice a len cap) d p):∃ bs,AB w (.slice a len cap) bs:=by
 obtain⟨fuel,hf⟩:=h
 obtain⟨v',bs,e,hb⟩:=Xc he hb hcb hf
 simp [Value.cells] at e
 subst e
 exact⟨bs,hb⟩
end
section
variable {w0 w:World} {R:List az}
end
section
variable {H:Type} {enc:TypeId×Value→H} {w:World} {base:Nat} {spare:Nat→Bool} {held:Bool}
theorem acf {a:Option Addr} {len cap:Nat} {d:DataW H} {p:List MemPlace} (h:DataW.Trod enc Tryz.prog w base spare held 43 (.slice a len cap) d p):∃ zs,aak .i64 w a len cap zs:=
 acr Tryz.underlying43 Tryz.underlying3 (by kernel_rfl) h
end
section
variable {w0 w:World} {R:List az}
end
section
variable {c:oL} {ab ar ap:Option Addr} {cb cr cp:Nat} {r:Rec}
theorem acC:(rT c ab cb ar cr ap cp).toArray[0]?=some (.int .i64 c.act):=rfl
theorem acs:(rT c ab cb ar cr ap cp).toArray[16]?=some (.slice ar c.rows.length cr):=rfl
theorem acD:(Nh r ab cb).toArray[10]?=some (.slice ab r.ax.length cb):=rfl
theorem acu:(Nh r ab cb).toArray.all (·.oneCell')=true:=by simp [Nh,aF,Value.oneCell']
end
section
variable {F0:List Nat} {w0 w:World} {R:List az}
theorem acE (h:In F0 w0 w R) (r:Rec) (ab:Option Addr) (cb:Nat):(w.alloc (.cells abb 69)).there w.heap.size 0 14∧In F0 w0 ((w.alloc (.cells abb 69)).setCells w.heap.size 0 (Nh r ab cb).toArray.toList) (Cells w.heap.size (Nh r ab cb).toArray 69::R):=by
 have g1:=h.cells abb 69
 exact⟨fG (g1.block 0 rfl),g1.gp 0 rfl (xs:=Nh r ab cb) (b:=w.heap.size) (C:=abb) (T:=69) rfl⟩
end
section
variable {w0 w:World} {R:List az}
theorem ab3 {cs:List oL} (h:In [] w0 w R):YT cs w0 R (.returned (.bool false)) w:=⟨false,rfl,(fun e=>by cases e),h⟩
theorem ab2 {rs:List Rec} {j:Nat} {y:Rec} (hy:rs[j]?=some y) (hall:∀ r∈rs.take j,r.ax.length≤40) (hb:y.ax.length≤40) (ho:In [] w0 w R):aar rs w0 R (.int .i64 ((j:Int)+1)) w:=by
 have hj:=(List.getElem?_eq_some_iff.1 hy).1
 refine⟨j+1,hj,by rw [Int.natCast_add];rfl,fun r hr=>?_,ho⟩
 rw [List.take_add_one,hy] at hr
 rcases List.mem_append.1 hr with hr | hr
 ·exact hall r hr
 ·simp at hr;subst hr;exact hb
theorem ab5 {cs:List oL} {k:Nat} {x:oL} (hx:cs[k]?=some x) (hk:¬ 60≤k) (hall:∀ c∈cs.take k,PR c) (hc:PR x) (ho:In [] w0 w R):aaW cs w0 R (.int .i64 ((k:Int)+1)) w:=by
 have hj:=(List.getElem?_eq_some_iff.1 hx).1
 refine⟨k+1,hj,by omega,by rw [Int.natCast_add];rfl,fun r hr=>?_,ho⟩
 rw [List.take_add_one,hx] at hr
 rcases List.mem_append.1 hr with hr | hr
 ·exact hall r hr
 ·simp at hr;subst hr;exact hc
theorem acF {v:Value} {cs:List oL} (h:In [] w0 w R) (hv:nM w0 v cs):Calls Tryz.prog 28 #[v] w (YT cs w0 R):=by
 obtain⟨a,cap,rfl,hc1,hc2,hcn,hc⟩:=hv.ex
 unfold maxLen at hc2
 have HC:=Lib.hid hc
 have HR:Hid (aaW cs w0 R (.int .i64 0) w):=Lib.hid ⟨0,Nat.zero_le _,Nat.zero_le _,rfl,by simp,h⟩
 clear h hv hc hcn
 go_enter Tryz.func28,Tryz.ntmps28
 go_wp2_with fail
 go_loopw [9] (aaW cs w0 R) (fun k _=>cs.length - (intOf k).toNat)
 case atStart=>exact HR.out
 case round=>
  obtain⟨k,hk,ac1,rfl,hall,ho⟩:=hrel
  clear HR
  by_cases hlt:k < cs.length
  ·obtain⟨x,hx⟩:∃ x,cs[k]?=some x:=⟨cs[k],List.getElem?_eq_getElem hlt⟩
   obtain⟨g,o,csx,rfl,hcr,hcell⟩:=HC.out k x hx
   obtain⟨ab,cb,ar,cr,ap,cp,rfl,_,_,hbl,_,hvr,_,hrl⟩:=Ug hcr
   obtain⟨ar',cr',er,hr1,hr2,hr3,hr⟩:=hvr.ex
   cases er
   have hlt':(k:Int) < (cs.length:Int):=by omega
   have hw2:wrap64 ((k:Int)+1)=(k:Int)+1:=by unfold wrap64;omega
   have HRG:=Lib.hid (Nk ho hcell)
   obtain⟨hth,h4⟩:=PO ho x ab cb ar cr ap cp
   have HTH:=Lib.hid hth
   unfold maxLen at hbl hrl
   obtain⟨w4,hw4⟩:∃ w4,w4=(wr.alloc (.cells GQ 72)).setCells wr.heap.size 0 (rT x ab cb ar cr ap cp).toArray.toList:=⟨_,rfl⟩
   rw [← hw4] at h4
   have c12:w4.cell? ⟨wr.heap.size,12,none⟩=some (.slice ab x.r.ax.length cb):=cell_of (h4.block 0 rfl) PN
   have c16:w4.cell? ⟨wr.heap.size,16,none⟩=some (.slice ar x.rows.length cr):=cell_of (h4.block 0 rfl) acs
   have H4:=Lib.hid h4
   have HW4:=Lib.hid hw4
   have HNO:Hid (YT cs w0 R (.returned (.bool false)) w4):=Lib.hid (ab3 h4.drop)
   have YF:=Lib.hid (And.intro hall hx)
   have HVR:=Lib.hid hr
   have HLEN:Hid (x.rows.length < 9223372036854775808∧x.r.ax.length < 9223372036854775808):=Lib.hid ⟨by omega,by omega⟩
   clear ho h4 hvr hr hall hx hlt hcell hcr hw4 hth hr1 hr2 hr3 hc1
   go_upto_region 3 with fail
   go_cut [3,4] (fun x3 x4 wx=>x3=.int .i64 k∧x4=.pointer (some ⟨wr.heap.size,0,none⟩)∧wx=w4)
   case first=>
    have hzz:(.cells #[.int .i64 0,.int .i64 0,.int .i64 0,.int .u32 0,.int .u32 0,.int .i64 0,.int .i64 0,.int .i64 0,.int .i64 0,.int .i64 0,.int .i64 0,.int .i64 0,.slice none 0 0,.int .i64 0,.int .i64 0,.int .i64 0,.slice none 0 0,.slice none 0 0] 72:Obj)=.cells GQ 72:=rfl
    go_wp2_with (first | (refine wpList_load_mid (by rfl) 72 (.tmp 12) rfl g (o+k * 18) rfl (rT x ab cb ar cr ap cp) _ HRG.out Tryz.underlying72 rfl (by kernel_rfl) ?_) | (refine wpList_store_mid (by rfl) 72 (.tmp 4) (.tmp 13) rfl wr.heap.size 0 (rT x ab cb ar cr ap cp).toArray (by rfl) (by rfl) HTH.out (by kernel_rfl) Ni ?_))
    go_meet
    exact⟨rfl,rfl,HW4.out.symm⟩
   case rest=>
   obtain⟨rfl,rfl,rfl⟩:=hcut
   clear HRG HTH HW4
   by_cases q1:60≤k
   ·have q1':(60:Int)≤(k:Int):=by omega
    clear q1
    go_wp2_with fail
    go_ret
    exact HNO.out
   have q1':decide ((60:Int)≤(k:Int))=false:=by simp;omega
   by_cases q2:30 < x.rows.length
   ·have q2':(30:Int) < (x.rows.length:Int):=by omega
    clear q2
    go_wp2_with fail
    go_ret
    exact HNO.out
   have q2':decide ((30:Int) < (x.rows.length:Int))=false:=by simp;omega
   by_cases q3:40 < x.r.ax.length
   ·have q3':(40:Int) < (x.r.ax.length:Int):=by omega
    clear q3
    go_wp2_with fail
    go_ret
    exact HNO.out
   have q3':decide ((40:Int) < (x.r.ax.length:Int))=false:=by simp;omega
   have HR2:Hid (aar x.rows w0 R (.int .i64 0) wc):=Lib.hid ⟨0,Nat.zero_le _,rfl,by simp,H4.out.drop⟩
   clear HNO H4
   generalize wr.heap.size=fb at *
   go_wp2_with fail
   go_loopw [32] (aar x.rows w0 R) (fun j _=>x.rows.length - (intOf j).toNat)
   case atStart=>exact HR2.out
   case round=>
    obtain⟨j,hj,rfl,acg,hoj⟩:=hrel
    clear HR2 c12 c16
    by_cases acQ:j < x.rows.length
    ·obtain⟨y,hy⟩:∃ y,x.rows[j]?=some y:=⟨x.rows[j],List.getElem?_eq_getElem acQ⟩
     obtain⟨abI,oy,csy,rfl,hyr,hcy⟩:=HVR.out j y hy
     obtain⟨abE,cy,rfl,_,_,hyl,_⟩:=Xi hyr
     have acR:(j:Int) < (x.rows.length:Int):=by omega
     have hw3:wrap64 ((j:Int)+1)=(j:Int)+1:=by have:=HLEN.out.1;unfold wrap64;omega
     have HRY:=Lib.hid (Nk hoj hcy)
     obtain⟨hth,h6⟩:=acE hoj y abE cy
     have HTY:=Lib.hid hth
     unfold maxLen at hyl
     obtain⟨w6,hw6⟩:∃ w6,w6=(wr.alloc (.cells abb 69)).setCells wr.heap.size 0 (Nh y abE cy).toArray.toList:=⟨_,rfl⟩
     rw [← hw6] at h6
     have d10:w6.cell? ⟨wr.heap.size,10,none⟩=some (.slice abE y.ax.length cy):=cell_of (h6.block 0 rfl) acD
     have HW6:=Lib.hid hw6
     have acX:Hid (YT cs w0 R (.returned (.bool false)) w6):=Lib.hid (ab3 h6.drop)
     have HYJ:=Lib.hid (And.intro acg hy)
     have H6:=Lib.hid h6
     clear hoj h6 hyr hcy acg hy acQ hw6 hth
     go_upto_region 8 with fail
     go_cut [6] (fun x6 wx=>x6=.pointer (some ⟨wr.heap.size,0,none⟩)∧wx=w6)
     case first=>
      go_wp2_with (first | (refine wpList_load_mid (by rfl) 69 (.tmp 34) rfl abI (oy+j * 14) rfl (Nh y abE cy) _ HRY.out Tryz.underlying69 rfl (by kernel_rfl) ?_) | (refine wpList_store_mid (by rfl) 69 (.tmp 6) (.tmp 35) rfl wr.heap.size 0 (Nh y abE cy).toArray (by rfl) (by rfl) HTY.out (by kernel_rfl) acu ?_))
      go_meet
      exact⟨rfl,HW6.out.symm⟩
     case rest=>
     obtain⟨rfl,rfl⟩:=hcut
     clear HRY HTY HW6
     by_cases q4:40 < y.ax.length
     ·have q4':(40:Int) < (y.ax.length:Int):=by omega
      clear q4
      go_wp2_with fail
      go_ret
      exact acX.out
     have q4':decide ((40:Int) < (y.ax.length:Int))=false:=by simp;omega
     have HRN:Hid (aar x.rows w0 R (.int .i64 ((j:Int)+1)) wc):=Lib.hid (ab2 HYJ.out.2 HYJ.out.1 (Nat.le_of_not_lt q4) H6.out.drop)
     clear acX H6 HYJ
     go_wp2_with fail
     go_roundw
     case rel=>(try rw [hw3]);exact HRN.out
     case measure=>(try rw [hw3]);exact dV acR
    ·have ac3:(x.rows.length:Int)≤(j:Int):=by omega
     obtain rfl:j=x.rows.length:=by omega
     have HRN:Hid (aaW cs w0 R (.int .i64 ((k:Int)+1)) wr):=Lib.hid (ab5 YF.out.2 q1 YF.out.1 ⟨Nat.le_of_not_lt q2,Nat.le_of_not_lt q3,by rw [List.take_length] at acg;exact acg⟩ hoj)
     clear hoj acg acQ
     go_wp2_with fail
     go_roundw
     case rel=>(try rw [hw2]);exact HRN.out
     case measure=>(try rw [hw2]);exact dV hlt'
  ·have hge:(cs.length:Int)≤(k:Int):=by omega
   obtain rfl:k=cs.length:=by omega
   have HF:Hid (YT cs w0 R (.returned (.bool true)) wr):=Lib.hid ⟨true,rfl,fun _=>⟨ac1,by rw [List.take_length] at hall;exact hall⟩,ho⟩
   clear ho hall hlt
   go_wp2_with fail
   go_ret
   exact HF.out
end
theorem ab4 {d:ae} (h:aP d) (n:Int):aP (aaX d n):=by
 refine⟨h.dY,h.file,h.xH,h.wm,h.Ew,?_,h.Np⟩
 unfold aaX;simp only;split <;> omega
theorem kL.frames {N:gF} {fs:List FileD} {aa:List Nat} {aj:Nat} {Fr:List cB} {s:Nat} (h:kL N fs aa aj Fr s):∀ f∈Fr,jI f∧f.aj=aj:=by
 obtain⟨C,L,k,h1,rfl,h3⟩:=h
 exact h1.ok
theorem gW.fail {d:ae} {l:bK} {Fr lq:List cB} {s s0:Nat} (h:gW d l Fr s lq s0) (n:Int):gW (aaX d n) l Fr s lq s0:=by
 have hok:=ab4 h.ok n
 rcases h with ⟨h1,h⟩|⟨h1,h⟩
 ·exact Or.inl ⟨h1,hok,h.now,h.st⟩
 ·exact Or.inr ⟨h1,hok,h.now,h.st⟩
theorem ab6 {Fr:List cB} {s t:fP} (h:rdAll Fr s=(t,0)) (j:Nat):(rdAll (Fr.take j) s).2=0:=by
 rw [← List.take_append_drop j Fr,CW] at h
 by_cases hc:(rdAll (Fr.take j) s).2=0
 ·exact hc
 ·rw [if_pos hc] at h;exact absurd (by rw [h]) hc
theorem iF.uC {s:SD} {Fr:List cB} {k:Nat} (h:iF s Fr k Fr k) (p:List UInt8) :
  ∃ m0 j,k≤j∧j≤Fr.length∧m0.aj=s.2.l.m.aj∧nV (iw s.1 p) m0 (Fr.take j):=by
 have hfr:=h.log.now.2.2.frames
 rcases h.log with ⟨h1,h2⟩|⟨hl,h2⟩
 ·obtain⟨j,j1,j2,j3⟩:=(h2.now.congr (h2.st _ (qj s.1 p)) (fun _ _ _ _=>rfl)).uC h2.ok p
  exact⟨_,j,j1,j2,rfl,j3⟩
 ·rcases h2.st _ (qj s.1 p) with h3 | ⟨m0,h3⟩
  ·obtain⟨j,j1,j2,j3⟩:=(h2.now.congr h3 (fun _ _ _ _=>rfl)).uC h2.ok p
   exact⟨_,j,j1,j2,rfl,j3⟩
  ·obtain⟨j,j1,j2,j3⟩:=h3.uC h2.ok p
   refine⟨m0,j,j1,j2,?_,j3⟩
   obtain⟨f,hf⟩:=List.exists_mem_of_ne_nil _ (h.ne hl)
   rw [← (h3.2.2.frames f hf).2,(hfr f hf).2]
section
variable {F0:List Nat} {w0 w:World} {R:List az}
end
section
variable {F0:List Nat} {w0 w:World}
end
section
variable {F0:List Nat} {w0 w:World} {R:List az}
end
section
variable {F0:List Nat} {w0 w:World} {R:List az}
end
section
variable {F0:List Nat} {w0 w:World}
end
section
variable {F0:List Nat} {w0 w:World} {R:List az}
end
section
variable {F0:List Nat} {w0 w:World} {R:List az}
end
section
variable {F0:List Nat} {w0 w:World} {R:List az}
end
section
variable {F0:List Nat} {w0 w:World} {R:List az}
end
section
variable {F0:List Nat} {w0 w:World} {R:List az}
variable {bd:Nat} {d:ae}
theorem acS {F:List Nat} (h:bJ bd d w F) (ho:d.ops≤100000000) (n:Int) :
  Calls Tryz.prog 24 #[aD bd,.int .i64 n] w (GV (.tuple #[]) (bJ bd (aaX d n)) w F):=by
 obtain⟨hok,bn,bs,dP,bu,hl,h⟩:=h
 have hok':=ab4 hok n
 have h0:=In.start iC.aA h
 have c5:w.cell? ⟨bd,5,none⟩=some (.int .i64 (mg d)):=cell_of (h0.block 0 iV) rfl
 have f5:w.frozen? ⟨bd,5,none⟩=false:=aL (h0.block 0 iV)
 have h1:=h0.put 0 iV 5 (.int .i64 0)
 have d4:(w.setCell ⟨bd,5,none⟩ (.int .i64 0)).cell? ⟨bd,4,none⟩=some (.int .i64 d.ops):=cell_of (h1.block 0 rfl) rfl
 have d5:(w.setCell ⟨bd,5,none⟩ (.int .i64 0)).cell? ⟨bd,5,none⟩=some (.int .i64 0):=cell_of (h1.block 0 rfl) rfl
 have g5:(w.setCell ⟨bd,5,none⟩ (.int .i64 0)).frozen? ⟨bd,5,none⟩=false:=aL (h1.block 0 rfl)
 by_cases hn:1≤n∧n≤4611686018427387904
 ·have hn1:1≤n:=hn.1
  have hn2:n≤4611686018427387904:=hn.2
  have h2:=h1.put 0 rfl 5 (.int .i64 (d.ops+n))
  have HF:Hid (GV (.tuple #[]) (bJ bd (aaX d n)) w F (.returned (.tuple #[])) ((w.setCell ⟨bd,5,none⟩ (.int .i64 0)).setCell ⟨bd,5,none⟩ (.int .i64 (d.ops+n)))):=Lib.hid (by
   refine fq (dP:=dP) (bn:=bn) (bs:=bs) (bu:=bu) ?_ hok' hl
   have e:((d.ops:Int)+n)=((mg (aaX d n):Nat):Int):=by
    unfold mg aaX;simp only [if_pos hn];rw [if_neg (by omega)];omega
   rw [e] at h2
   rw [e]
   exact h2)
  clear h h0 h1 h2 hok hok' hl hn
  go_enter Tryz.func24,Tryz.ntmps24
  go_wp2_with fail
  go_end0
  exact HF.out
 ·have HF:Hid (GV (.tuple #[]) (bJ bd (aaX d n)) w F (.returned (.tuple #[])) (w.setCell ⟨bd,5,none⟩ (.int .i64 0))):=Lib.hid (by
   refine fq (dP:=dP) (bn:=bn) (bs:=bs) (bu:=bu) ?_ hok' hl
   have e:((mg (aaX d n):Nat):Int)=0:=by
    unfold mg aaX;simp only [if_neg hn];rfl
   unfold iC gX
   rw [e]
   exact h1)
  clear h h0 h1 hok hok' hl
  by_cases hn1:1≤n
  ·have hn2:¬ n≤4611686018427387904:=fun h=>hn ⟨hn1,h⟩
   clear hn
   go_enter Tryz.func24,Tryz.ntmps24
   go_wp2_with fail
   go_end0
   exact HF.out
  ·clear hn
   go_enter Tryz.func24,Tryz.ntmps24
   go_wp2_with fail
   go_end0
   exact HF.out
theorem acG (h:In F0 w0 w R) (i:Nat) (hA:R[i]?=some (bJ bd d)) (ho:d.ops≤100000000) (n:Int) :
  Calls Tryz.prog 24 #[aD bd,.int .i64 n] w fun e w'=>e=.returned (.tuple #[])∧In F0 w0 w' (R.set i (bJ bd (aaX d n))):=
 qN h i hA (bJ.aA _ _) fun F hF=>acS hF ho n
end
section
variable {F0:List Nat} {w0 w:World} {R:List az}
end
section
variable {F0:List Nat} {w0 w:World} {R:List az} {bd:Nat} {d:ae}
theorem acv (g:Int) (A B C:Option Addr) (n c m d k e:Nat):∀ u∈[Value.int .i64 g,.slice A n c,.slice B m d,.slice C k e],u.oneCell'=true:=by
 intro u hu
 simp only [List.mem_cons,List.not_mem_nil,or_false] at hu
 rcases hu with rfl | rfl | rfl | rfl <;> rfl
end
theorem acw:bs0.2.1.isSome=true∧bs0.2.2=0∧bs1.2=0∧bs2.2=0∧bs3.2=0∧bs5.2.1.isSome=true∧bs5.2.2=0∧(bs5.2.1.getD default).sure.bU.length=1∧DU bsS.2.l=true∧DU bs1.1.2.l=true∧DU bs2.1.2.l=true∧bsS.1.ops≤1000∧bs1.1.1.ops≤1000∧bs2.1.1.ops≤1000∧bs3.1.1.ops≤1000∧bs4.ops≤1000:=by decide +kernel
theorem acL {n b:Int} (h0:0≤n) (h1:n < 4294967296):mQ (rP n b):=⟨by constructor <;> simp [rP] <;> omega,by simp [rP]⟩
theorem ab7 {v z:Int} {d:ae} {so:pK} (h:(nW v z d).2.1=some so):so.sure=so.st:=by
 unfold nW at h
 split at h
 ·cases h
 ·split at h
  ·cases h
  ·split at h
   ·cases h
   ·simp only [Option.some.injEq] at h
    subst h;rfl
section
variable {F0:List Nat} {w0 w:World} {R:List az}
theorem abX {d:ae} {bd:Nat} (h:In F0 w0 w (bJ bd d::R)) (ho:d.ops≤100000000) :
  Calls Tryz.prog 26 #[aD bd,.slice none 0 0] w fun e w'=>e=.returned (.tuple #[])∧In F0 w0 w' (bJ bd (iw d [])::R):=
 Gw h 0 rfl (bJ.aA _ _) fun F G hF hG hap hfr=>XM (p:=[]) (A:=none) (c:=0) hF ho ⟨fun w' hw'=>Src.nil _ _ _,Nat.le_refl _,by unfold maxLen;omega⟩
theorem ach (x0 x1 x2 x3:Value) (w:World):(Instr.field 62 (.agg #[x0,x1,x2,x3]) 3).run Tryz.prog w=.ok x3 w:=by kernel_rfl
theorem ac2 (n b:Int):(#[.int .i64 1,.int .u32 n,.int .u32 0,.int .i64 6,.int .i64 0,.int .i64 0,.int .i64 b,.int .i64 0,.int .i64 0,.int .i64 0,.slice none 0 0,.int .i64 0,.int .i64 0,.int .i64 0]:Array Value).all (·.oneCell')=true:=by simp [Value.oneCell']
theorem aci (n b:Int) (hn:IntKind.u32.wrap n=n) (h:In F0 w0 w R):Calls Tryz.prog 98 #[.int .i64 n,.int .i64 b] w fun e w'=>e=.returned (uy (rP n b) none 0)∧In F0 w0 w' R:=by
 have g1:=h.cells #[.int .i64 0,.int .u32 0,.int .u32 0,.int .i64 0,.int .i64 0,.int .i64 0,.int .i64 0,.int .i64 0,.int .i64 0,.int .i64 0,.slice none 0 0,.int .i64 0,.int .i64 0,.int .i64 0] 69
 have Q1:=Lib.hid (fG (g1.block 0 rfl))
 have G:=Lib.hid (g1.gp 0 rfl (xs:=[.int .i64 1,.int .u32 n,.int .u32 0,.int .i64 6,.int .i64 0,.int .i64 0,.int .i64 b,.int .i64 0,.int .i64 0,.int .i64 0,.slice none 0 0,.int .i64 0,.int .i64 0,.int .i64 0]) (b:=w.heap.size) (C:=#[.int .i64 0,.int .u32 0,.int .u32 0,.int .i64 0,.int .i64 0,.int .i64 0,.int .i64 0,.int .i64 0,.int .i64 0,.int .i64 0,.slice none 0 0,.int .i64 0,.int .i64 0,.int .i64 0]) (T:=69) rfl)
 clear h g1
 go_enter Tryz.func98,Tryz.ntmps98
 go_wp2_with (refine wpList_store_mid (op:=⟨none,Op.store 69 (.tmp 4) (.tmp 10),_,_,_,_⟩) (by rfl) 69 (.tmp 4) (.tmp 10) rfl w.heap.size 0 #[.int .i64 1,.int .u32 n,.int .u32 0,.int .i64 6,.int .i64 0,.int .i64 0,.int .i64 b,.int .i64 0,.int .i64 0,.int .i64 0,.slice none 0 0,.int .i64 0,.int .i64 0,.int .i64 0] (by rfl) (by rfl) Q1.out (by kernel_rfl) (ac2 n b) ?_)
 exact bodyPost_ret (results_cell_row Tryz.results98 _ _ w.heap.size 69 _ (0,0) _ rfl (G.out.block 0 rfl) Tryz.underlying69 rfl (by kernel_rfl)) rfl ⟨rfl,G.out.drop⟩
theorem acj (h:In F0 w0 w R):Calls Tryz.prog 29 #[] w fun e w'=>e=.returned (.bool true)∧In F0 w0 w' R:=by
 obtain⟨f1,f2,f3,f4,f5,f6,f7,f8,l1,l2,l3,o1,o2,o3,o4,o5⟩:=acw
 have K0:=Lib.hid (QZ h 5000 (by omega) (by omega))
 have K1:=Lib.hid (fun bd w' (h':In F0 w0 w' (bJ bd (jF 5000)::R))=>o_socreate h' (by decide) 3 200)
 have KP1:=Lib.hid (fun w' (R':List az) (h':In F0 w0 w' R')=>aci 1 7 rfl h')
 have KP2:=Lib.hid (fun w' (R':List az) (h':In F0 w0 w' R')=>aci 2 8 rfl h')
 have K2:=Lib.hid (fun sb lb bd dz w' (h':In F0 w0 w' (oG sb lb bd dz bsS R))=>uq (A:=none) (c:=0) (r:=rP 1 7) (xm l1) (by omega) (fun _ _=>Src.nil _ _ _) (fun _=>rfl) (by decide) (acL (by decide) (by decide)) h')
 have K3:=Lib.hid (fun sb lb bd dz w' (h':In F0 w0 w' (oG sb lb bd dz bs1.1 R))=>Sz (xm l2) (by omega) h')
 have K4:=Lib.hid (fun sb lb bd dz w' (h':In F0 w0 w' (oG sb lb bd dz bs2.1 R))=>uq (A:=none) (c:=0) (r:=rP 2 8) (xm l3) (by omega) (fun _ _=>Src.nil _ _ _) (fun _=>rfl) (by decide) (acL (by decide) (by decide)) h')
 have K5:=Lib.hid (fun bd w' (h':In F0 w0 w' (bJ bd bs3.1.1::R))=>abX h' (by omega))
 have K6:=Lib.hid (fun bd w' (h':In F0 w0 w' (bJ bd bs4::R))=>o_soopen h' (by omega) 3 200)
 have zm:Hid (bs0.2.1=some bsS.2):=Lib.hid (by
  show _=some (bs0.2.1.getD default)
  cases e:bs0.2.1 with
  | none=>rw [e] at f1;cases f1
  | some l=>rfl)
 have HS5:Hid (bs5.2.1=some (bs5.2.1.getD default)):=Lib.hid (by
  cases e:bs5.2.1 with
  | none=>rw [e] at f6;cases f6
  | some l=>rfl)
 have E0:=Lib.hid f2
 have E1:=Lib.hid f3
 have E2:=Lib.hid f4
 have E3:=Lib.hid f5
 have E5:=Lib.hid f7
 have E8:=Lib.hid f8
 clear h f1 f2 f3 f4 f5 f6 f7 f8 l1 l2 l3 o1 o2 o3 o4 o5
 go_enter Tryz.func29,Tryz.ntmps29
 go_wp2_with fail
 refine K0.out.mono ?_
 rintro e w1 ⟨bd,rfl,g1⟩
 have C1:=Lib.hid (K1.out bd w1 g1)
 clear g1 K0 K1
 go_wp2_with fail
 refine C1.out.mono ?_
 intro e w2 hp
 obtain⟨sb,lb,dz,rfl,g2⟩:=hp.some zm.out
 rw [show createS 3 200 (jF 5000)=bs0 from rfl,E0.out]
 have C2:=Lib.hid (KP1.out w2 _ g2)
 clear g2 hp C1 KP1
 go_wp2_with fail
 refine C2.out.mono ?_
 rintro e w3 ⟨rfl,g3⟩
 have C3:=Lib.hid (K2.out sb lb bd dz w3 g3)
 clear g3 C2 K2
 go_wp2_with fail
 refine C3.out.mono ?_
 rintro e w4 ⟨rfl,g4⟩
 rw [show bG (rP 1 7) bsS=bs1 from rfl,E1.out]
 have C4:=Lib.hid (K3.out sb lb bd dz w4 g4)
 clear g4 C3 K3
 go_wp2_with fail
 refine C4.out.mono ?_
 rintro e w5 ⟨rfl,g5⟩
 rw [show iN bs1.1=bs2 from rfl,E2.out]
 have C5:=Lib.hid (KP2.out w5 _ g5)
 clear g5 C4 KP2
 go_wp2_with fail
 refine C5.out.mono ?_
 rintro e w6 ⟨rfl,g6⟩
 have C6:=Lib.hid (K4.out sb lb bd dz w6 g6)
 clear g6 C5 K4
 go_wp2_with fail
 refine C6.out.mono ?_
 rintro e w7 ⟨rfl,g7⟩
 rw [show bG (rP 2 8) bs2.1=bs3 from rfl,E3.out]
 have C7:=Lib.hid (K5.out bd w7 (g7.aI (R1:=[_,_,_,_]) [2] (by decide) rfl))
 clear g7 C6 K5
 go_wp2_with fail
 refine C7.out.mono ?_
 rintro e w8 ⟨rfl,g8⟩
 have C8:=Lib.hid (K6.out bd w8 g8)
 clear g8 C7 K6
 go_wp2_with fail
 refine C8.out.mono ?_
 intro e w9 hp
 obtain⟨sb5,lb5,aah,rfl,g9⟩:=hp.some HS5.out
 rw [show nW 3 200 bs4=bs5 from rfl] at g9 ⊢
 rw [E5.out]
 have hok:fU (bs5.2.1.getD default).sure:=by
  rw [ab7 (v:=3) (z:=200) (d:=bs4) HS5.out]
  exact (g9.aI (R1:=[_,_,_,_]) [3] (by decide) rfl).ny.1
 have C9:=Lib.hid (Sy hok g9)
 clear g9 hp C8 hok
 go_wp2_with fail
 refine C9.out.mono ?_
 rintro e Co ⟨A,a,D,d,F,f,rfl,g10⟩
 have G:=Lib.hid (g10.aI (R1:=[_,_,_,_,_,_,_]) [] (by decide) rfl)
 clear g10 C9
 have q8:(((bs5.2.1.getD default).sure.bU.length:Int) == 1)=true:=by rw [E8.out];rfl
 have hfd:=ach
 dsimp only [Ct]
 go_wp2_with fail
 go_ret
 exact⟨rfl,G.out⟩
end
section
variable {F0:List Nat} {w0 w:World} {R:List az}
end
section
variable {H:Type} {enc:TypeId×Value→H} {w:World} {base:Nat} {spare:Nat→Bool} {held:Bool}
theorem ab8 {a:Option Addr} {len cap:Nat} {d:DataW H} {p:List MemPlace} (h:DataW.Trod enc Tryz.prog w base spare held 23 (.slice a len cap) d p):∃ bs,AB w (.slice a len cap) bs:=
 ace Tryz.underlying23 Tryz.underlying5 (by kernel_rfl) h
end
theorem iF.fail {s:SD} {Fr:List cB} {k:Nat} {lq:List cB} {k0:Nat} (h:iF s Fr k lq k0) (n:Int):iF (aaX s.1 n,s.2) Fr k lq k0:=⟨h.log.fail n,h.st,h.ok,h.oks,h.ne⟩
def abM (Fr:List cB) (k:Nat):List fP:=(List.range (Fr.length - k+1)).map fun j=>(rdAll (Fr.take (k+j)) aJ).1
theorem abY {Fr:List cB} {k:Nat} (hk:k≤Fr.length) (f:cB):abM (Fr++[f]) k=abM Fr k++[(rdAll (Fr++[f]) aJ).1]:=by
 unfold abM
 rw [List.length_append,List.length_singleton,show Fr.length+1 - k+1=(Fr.length - k+1)+1 by omega,List.range_succ,List.map_append,List.map_singleton]
 congr 1
 ·refine List.map_congr_left fun j hj=>?_
  have:=List.mem_range.1 hj
  rw [List.take_append_of_le_length (by omega)]
 ·rw [show k+(Fr.length - k+1)=Fr.length+1 by omega,List.take_of_length_le (by simp)]
theorem abZ {Fr:List cB}:abM Fr Fr.length=[(rdAll Fr aJ).1]:=by
 unfold abM
 rw [Nat.sub_self]
 simp
structure abO (k z:Nat) (v:Int) (ms:List fP) (s:SD):Prop where
 inv:∃ Fr kk,iF s Fr kk Fr kk∧kk≤Fr.length∧ms=abM Fr kk
 size:s.2.l.size=z
 aj:(s.2.l.m.aj:Int)=v
 ops:s.1.ops≤1000+20 * k
 oks:∀ m∈ms,fU m
 few:ms.length≤k+1
section
variable {k z:Nat} {v:Int} {ms:List fP} {s:SD}
theorem abO.VI (h:abO k z v ms s) (hz:16≤z∧z≤1048576):gH s.2.l:=by
 obtain⟨_,_,g,_⟩:=h.inv
 exact⟨by rw [h.size];exact hz.1,by rw [h.size];exact hz.2,g.log.now.1⟩
theorem abO.ok (h:abO k z v ms s):fU s.2.st∧fU s.2.sure:=by
 obtain⟨_,_,g,_⟩:=h.inv
 exact⟨g.ok,g.oks⟩
theorem abO.acT (h:abO k z v ms s) (hk:k≤60):s.1.ops≤5000:=by have:=h.ops;omega
theorem abO.more (h:abO k z v ms s):abO (k+1) z v ms s:=⟨h.inv,h.size,h.aj,by have:=h.ops;omega,h.oks,by have:=h.few;omega⟩
theorem abO.fail (h:abO k z v ms s) (n:Int):abO k z v ms (aaX s.1 n,s.2):=by
 obtain⟨Fr,kk,g,h1,h2⟩:=h.inv
 exact⟨⟨Fr,kk,g.fail n,h1,h2⟩,h.size,h.aj,h.ops,h.oks,h.few⟩
theorem abO.write (h:abO k z v ms s) {r:Rec} (wr:mQ r) :
  ((bG r s).2=0∧abO (k+1) z v (ms++[(bG r s).1.2.st]) (bG r s).1)∨((bG r s).2≠0∧abO (k+1) z v ms (bG r s).1):=by
 obtain⟨Fr,kk,g,h1,h2⟩:=h.inv
 obtain⟨a1,a2,a3,a4⟩:=g.write wr
 have ho:=Cg r s
 have hops:=h.ops
 have aav:=h.few
 rcases a4 with ⟨e,f,g1,g2⟩|⟨e,e1,e2⟩
 ·refine Or.inl ⟨e,⟨_,kk,g1,by rw [List.length_append];omega,?_⟩,by rw [a1];exact h.size,by rw [a2];exact h.aj,by omega,fun m hm=>?_,by rw [List.length_append];simp;omega⟩
  ·rw [abY h1,← h2,g1.st]
  ·rcases List.mem_append.1 hm with hm | hm
   ·exact h.oks m hm
   ·simp at hm;subst hm;exact g1.ok
 ·refine Or.inr ⟨e,?_,by rw [a1];exact h.size,by rw [a2];exact h.aj,by omega,h.oks,by omega⟩
  rcases e2 with g1 | g1 <;> exact⟨Fr,kk,g1,h1,h2⟩
theorem abO.sync (h:abO k z v ms s) :
  (iN s).1.2.st=s.2.st∧(((iN s).2=0∧(iN s).1.2.sure=s.2.st∧abO (k+1) z v [s.2.st] (iN s).1)∨((iN s).2≠0∧abO (k+1) z v ms (iN s).1)):=by
 obtain⟨Fr,kk,g,h1,h2⟩:=h.inv
 obtain⟨a1,a2,a3,a4⟩:=g.sync
 have ho:=OD s
 have hops:=h.ops
 have aav:=h.few
 refine⟨a3,?_⟩
 rcases a4 with ⟨e,g1,g2,g3⟩|⟨e,g1,g2⟩
 ·refine Or.inl ⟨e,g1,⟨Fr,_,g3,Nat.le_refl _,?_⟩,by rw [a1];exact h.size,by rw [a2];exact h.aj,by omega,fun m hm=>?_,by simp⟩
  ·rw [abZ,g.st]
  ·simp at hm;subst hm;exact g.ok
 ·exact Or.inr ⟨e,⟨Fr,kk,g2,h1,h2⟩,by rw [a1];exact h.size,by rw [a2];exact h.aj,by omega,h.oks,by omega⟩
theorem abO.last (h:abO k z v ms s):∃ ms',ms=ms'++[s.2.st]:=by
 obtain⟨Fr,kk,g,h1,h2⟩:=h.inv
 refine⟨(List.range (Fr.length - kk)).map (fun j=>(rdAll (Fr.take (kk+j)) aJ).1),?_⟩
 rw [h2,abM,List.range_succ,List.map_append,List.map_singleton,show kk+(Fr.length - kk)=Fr.length by omega,List.take_of_length_le (Nat.le_refl Fr.length),g.st]
theorem abO.uC (h:abO k z v ms s) (hv:1≤v∧v≤3) (size:Int) (p:List UInt8) :
  ∃ (j:Nat) (m:fP) (d':ae) (l:bK),ms[j]?=some m∧nW 3 size (iw s.1 p)=(d',some ⟨l,m,m⟩,0)∧(l.m.aj:Int)=v:=by
 obtain⟨Fr,kk,g,h1,h2⟩:=h.inv
 obtain⟨m0,j,j1,j2,j3,j4⟩:=g.uC p
 have hj:(abM Fr kk)[j - kk]?=some (rdAll (Fr.take j) aJ).1:=by
  unfold abM
  rw [List.getElem?_map,List.getElem?_range (by omega)]
  simp only [Option.map_some]
  rw [show kk+(j - kk)=j by omega]
 have hr:rdAll (Fr.take j) aJ=((rdAll (Fr.take j) aJ).1,0):=by
  have:=ab6 g.st j
  generalize rdAll (Fr.take j) aJ=x at *
  obtain⟨a,b⟩:=x
  simp only at this;subst this;rfl
 have mr:=h.aj
 obtain⟨d',e1,e2⟩:=Mf j4 rfl hr (h.oks _ (by rw [h2];exact List.mem_of_getElem? hj)) (aj:=3) size ⟨by rw [j3];omega,by omega⟩
 exact⟨j - kk,_,d',_,by rw [h2];exact hj,e1,by show (m0.aj:Int)=v;rw [j3];exact mr⟩
end
theorem abO.start {v:Int} (hv:1≤v∧v≤3) (size:Int):∃ s:SD,createS v size (jF 300000)=(s.1,some s.2,0)∧abO 0 (sized size) v [aJ] s∧s.2.st=aJ:=by
 obtain⟨s,h1,h2,h3,h4,h5,h6⟩:=rD.start hv size 300000 61 (by omega) (by omega)
 obtain⟨s',h1',g,_⟩:=uz.start 61 (by omega) hv size
 have es:s'=s:=by
  rw [h1] at h1'
  obtain⟨a,b⟩:=s
  obtain⟨a',b'⟩:=s'
  simp only [Prod.mk.injEq,Option.some.injEq] at h1'
  obtain⟨rfl,rfl,_⟩:=h1'
  rfl
 subst es
 refine⟨s',h1,⟨⟨[],0,h2.inv,Nat.le_refl _,rfl⟩,h6,h5,?_,fun m hm=>?_,by simp⟩,h3⟩
 ·have:=g.ops;omega
 ·simp at hm;subst hm;exact fU.zero
end Go.Proofs.YtogclkhpbjfadaaGreat
