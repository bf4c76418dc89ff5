/- Rows.CompactBoundsSaid -/
import Derived.Test.YtaopfagclnocdaaGreatCU5
import Derived.Test.YtaopfagclnocdaaGreatCU11
import Derived.BigQuiet
import Derived.Deep.QuietTactic
namespace Go.Proofs.YtaopfagclnocdaaGreat
open Go.RowKit
set_option linter.unusedVariables false
set_option maxHeartbeats 64000000
set_option maxRecDepth 100000
theorem upId_snoc:∀ (l:List Bk) (b:Bk),upId (l++[b])=(upId l && (match l.getLast? with | none=>true | some a=>decide (a.id < b.id)))
 | [],b=>rfl
 | [a],b=>by simp [upId]
 | a::c::r,b=>by
  have ih:=upId_snoc (c::r) b
  simp only [List.cons_append] at ih ⊢
  simp only [upId,ih,List.getLast?_cons_cons,Bool.and_assoc]
theorem gn_weighed (x:Int) (w:World):Calls Tryz.prog 171 #[.int .i64 x] w fun e w'=>e=.returned (.bool (decide (1≤x∧x≤10)))∧w'=w:=by
 by_cases h0:1≤x
 ·by_cases h1:x≤10
  ·have e:decide (1≤x∧x≤10)=true:=decide_eq_true ⟨h0,h1⟩
   rw [e];clear e
   go_enter Tryz.func171,Tryz.ntmps171
   go_wp2_with fail
   go_ret
   exact⟨rfl,rfl⟩
  ·have e:decide (1≤x∧x≤10)=false:=decide_eq_false (fun h=>h1 h.2)
   have q:decide (x≤10)=false:=decide_eq_false h1
   rw [e];clear e h1
   go_enter Tryz.func171,Tryz.ntmps171
   go_wp2_with fail
   go_ret
   exact⟨rfl,rfl⟩
 ·have e:decide (1≤x∧x≤10)=false:=decide_eq_false (fun h=>h0 h.1)
  have q:decide (1≤x)=false:=decide_eq_false h0
  rw [e];clear e h0
  go_enter Tryz.func171,Tryz.ntmps171
  go_wp2_with fail
  go_ret
  exact⟨rfl,rfl⟩
section
variable {F0:List Nat} {w0 w:World} {R:List Asrt}
def GnRel (l:List Bk) (F0:List Nat) (w0:World) (R:List Asrt) (i:Value) (wr:World):Prop:=
 ∃ k:Nat,k≤l.length∧i=.int .i64 k∧(∀ b∈l.take k,mayBk b=true)∧upId (l.take k)=true∧In F0 w0 wr R
def GnPost (r:Bool) (F0:List Nat) (w0:World) (R:List Asrt) (e:Ending) (w':World):Prop:=e=.returned (.bool r)∧In F0 w0 w' R
def gnOk (l:List Bk) (k:Nat) (b:Bk):Bool:=mayBk b && (match (l.take k).getLast? with | none=>true | some a=>decide (a.id < b.id))
theorem gn_step {l:List Bk} {k:Nat} {b:Bk} (hb:l[k]?=some b) (ha:∀ b∈l.take k,mayBk b=true) (hu:upId (l.take k)=true) (h:gnOk l k b=true) (hi:In F0 w0 w R):GnRel l F0 w0 R (.int .i64 ((k:Int)+1)) w:=by
 simp only [gnOk,Bool.and_eq_true] at h
 have ht:l.take (k+1)=l.take k++[b]:=by rw [List.take_add_one,hb];rfl
 refine⟨k+1,(List.getElem?_eq_some_iff.1 hb).1,by rw [Int.natCast_add];rfl,fun x hx=>?_,?_,hi⟩
 ·rw [ht] at hx
  rcases List.mem_append.1 hx with hx | hx
  ·exact ha x hx
  ·simp at hx;subst hx;exact h.1
 ·rw [ht,upId_snoc,hu,h.2];rfl
theorem upId_take:∀ (l:List Bk) (k:Nat),upId l=true→upId (l.take k)=true
 | [],k,_=>by simp [upId]
 | a::r,0,_=>rfl
 | [a],k+1,_=>by simp [upId]
 | a::c::r,1,_=>rfl
 | a::c::r,k+2,h=>by
  simp only [upId,Bool.and_eq_true] at h
  have:=upId_take (c::r) (k+1) h.2
  simp only [List.take_succ_cons] at this ⊢
  simp only [upId,Bool.and_eq_true]
  exact⟨h.1,this⟩
theorem gn_no {l:List Bk} {k:Nat} {b:Bk} (hb:l[k]?=some b) (h:gnOk l k b=false):gensMay l=false:=by
 cases hg:gensMay l with
 | false=>rfl
 | true=>
  simp only [gensMay,Bool.and_eq_true,decide_eq_true_eq,List.all_eq_true] at hg
  have h1:=hg.2.1 b (List.mem_of_getElem? hb)
  have ht:l.take (k+1)=l.take k++[b]:=by rw [List.take_add_one,hb];rfl
  have h2:=upId_take l (k+1) hg.2.2
  rw [ht,upId_snoc] at h2
  simp only [Bool.and_eq_true] at h2
  unfold gnOk at h
  rw [h1,h2.2] at h
  cases h
theorem gn_last {l:List Bk} {k:Nat} (hk:k+1≤l.length):∃ a,l[k]?=some a∧(l.take (k+1)).getLast?=some a:=by
 obtain⟨a,ha⟩:∃ a,l[k]?=some a:=⟨l[k]'(by omega),List.getElem?_eq_getElem _⟩
 exact⟨a,ha,by rw [List.take_add_one,ha];simp⟩
theorem o_gnmay {l:List Bk} {A:Option Addr} {c:Nat} (hs:BksAt F0 w0 R A l) (hl:l.length≤1000000000) (h:In F0 w0 w R):Calls Tryz.prog 101 #[.slice A l.length c] w (GnPost (gensMay l) F0 w0 R):=by
 by_cases h16:16 < l.length
 ·have e:gensMay l=false:=by unfold gensMay;rw [decide_eq_false (by omega)];rfl
  have q:(16:Int) < (l.length:Int):=by omega
  have G:=Lib.hid h
  rw [e]
  clear e h h16 hs hl
  go_enter Tryz.func101,Tryz.ntmps101
  go_wp2_with fail
  go_ret
  exact⟨rfl,G.out⟩
 have q16:decide ((16:Int) < (l.length:Int))=false:=decide_eq_false (by omega)
 have HL16:Hid (l.length≤16):=Lib.hid (Nat.le_of_not_lt h16)
 have HR:Hid (GnRel l F0 w0 R (.int .i64 0) w):=Lib.hid ⟨0,Nat.zero_le _,rfl,by simp,rfl,h⟩
 have HS:=Lib.hid hs
 clear h hs hl h16
 go_enter Tryz.func101,Tryz.ntmps101
 go_wp2_with fail
 go_loopw [10] (GnRel l F0 w0 R) (fun k _=>l.length - (intOf k).toNat)
 case atStart=>exact HR.out
 case round=>
  obtain⟨k,hk,rfl,hall,hup,hio⟩:=hrel
  clear HR
  by_cases hlt:k < l.length
  ·obtain⟨b,hb⟩:∃ b,l[k]?=some b:=⟨l[k],List.getElem?_eq_getElem hlt⟩
   obtain⟨g,o,rfl,c0,c1,c2⟩:=HS.out.cell hio hb
   have hlt':(k:Int) < (l.length:Int):=Int.ofNat_lt.2 hlt
   have hw2:wrap64 ((k:Int)+1)=(k:Int)+1:=by have:=HL16.out;unfold wrap64;omega
   have HN:=Lib.hid (fun (h1:gnOk l k b=true) w' (h':In F0 w0 w' R)=>gn_step (w:=w') hb hall hup h1 h')
   have HX:=Lib.hid (fun (h1:gnOk l k b=false) w' (h':In F0 w0 w' R)=>(show GnPost (gensMay l) F0 w0 R (.returned (.bool false)) w' from ⟨by rw [gn_no hb h1],h'⟩))
   have HIO:Hid (∀ o n,In F0 w0 ((wr.alloc o).drewN n) R):=Lib.hid fun o n=>(hio.alloc o).drewN n
   have KW:=Lib.hid (gn_weighed b.weight)
   have HK0:Hid (∀ a,k≠0→l[k - 1]?=some a→wr.cell? ⟨g,o+(k - 1) * 3,none⟩=some (.int .i64 a.id)):=Lib.hid fun a _ ha=>by
    obtain⟨g',o',e,d0,_⟩:=HS.out.cell hio ha
    cases e;exact d0
   obtain⟨id,addr,wt⟩:=b
   simp only at c0 c1 c2 KW
   have hmb:mayBk ⟨id,addr,wt⟩=(inB id 65535 && decide (1≤wt∧wt≤10)):=rfl
   by_cases hA:id < 0
   ·have HX2:=Lib.hid (HX.out (by unfold gnOk;rw [hmb];unfold inB;rw [decide_eq_false (by omega)];rfl))
    clear HX HN HK0 hio hall hup hb hlt hk hmb
    go_wp2_with fail
    go_quiet (fail)
    go_wp2_with fail
    go_ret
    exact HX2.out _ (HIO.out _ _)
   have qA:decide (id < 0)=false:=decide_eq_false hA
   by_cases hB:65535 < id
   ·have HX2:=Lib.hid (HX.out (by unfold gnOk;rw [hmb];unfold inB;rw [decide_eq_false (by omega)];rfl))
    clear HX HN HK0 hio hall hup hb hlt hk hmb hA
    go_wp2_with fail
    go_quiet (fail)
    go_wp2_with fail
    go_ret
    exact HX2.out _ (HIO.out _ _)
   have qB:decide (65535 < id)=false:=decide_eq_false hB
   have hin:inB id 65535=true:=decide_eq_true (by omega)
   rw [hin,Bool.true_and] at hmb
   cases hC:decide (1≤wt∧wt≤10) with
   | false=>
    rw [hC] at KW
    have HX2:=Lib.hid (HX.out (by unfold gnOk;rw [hmb,hC];rfl))
    clear HX HN HK0 hio hall hup hb hlt hk hmb hA hB hin hC
    go_wp2_with fail
    go_quiet ((go_at_call 171;exact Calls.quiet_of_same (KW.out _)))
    go_wp2_with fail
    go_ret
    exact HX2.out _ (HIO.out _ _)
   | true=>
    rw [hC] at KW
    rw [hC] at hmb
    by_cases hD:k=0
    ·have hgo:gnOk l k ⟨id,addr,wt⟩=true:=by unfold gnOk;rw [hmb,hD];rfl
     have HN2:=Lib.hid (HN.out hgo)
     have qD:decide ((0:Int) < (k:Int))=false:=decide_eq_false (by omega)
     have qD':decide (0 < k)=false:=decide_eq_false (by omega)
     clear HX HN HK0 hio hall hup hb hlt hk hmb hA hB hin hC hgo hD
     go_wp2_with fail
     go_quiet ((go_at_call 171;exact Calls.quiet_of_same (KW.out _)))
     go_wp2_with fail
     go_roundw
     case rel=>(try rw [hw2]);exact HN2.out _ (HIO.out _ _)
     case measure=>(try rw [hw2]);exact meas_lt hlt'
    ·have qD:(0:Int) < (k:Int):=by omega
     obtain⟨k',rfl⟩:∃ k',k=k'+1:=⟨k - 1,by omega⟩
     obtain⟨a,ha,hla⟩:=gn_last (l:=l) (k:=k') (by omega)
     have d0:=HK0.out a hD (by simpa using ha)
     rw [Nat.add_sub_cancel] at d0
     have hkc:(((k'+1:Nat):Int))=(k':Int)+1:=by omega
     have hsub:IntKind.i64.wrap (((k'+1:Nat):Int) - 1)=(k':Int):=by have:=HL16.out;rw [IntWalk.i64_in _ (by omega)];omega
     have hsub2:(((k'+1:Nat):Int) - 1)=(k':Int):=by omega
     have hkl:(k':Int) < (l.length:Int):=by omega
     have hsub3:IntKind.i64.wrap ((k':Int)+1 - 1)=(k':Int):=by have:=HL16.out;rw [IntWalk.i64_in _ (by omega)];omega
     have hsub4:((k':Int)+1 - 1)=(k':Int):=by omega
     have qD2:(0:Int) < (k':Int)+1:=by omega
     have hsub5:IntKind.i64.wrap (k':Int)=(k':Int):=by have:=HL16.out;exact IntWalk.i64_in _ (by omega)
     have hkl2:k' < l.length:=by omega
     have hw3:wrap64 ((k':Int)+1+1)=((k'+1:Nat):Int)+1:=by have:=HL16.out;unfold wrap64;omega
     have hb3:=hio.cells #[.int .i64 id,.int .u32 addr,.int .i64 wt] 108
     have y0:(wr.alloc (.cells #[.int .i64 id,.int .u32 addr,.int .i64 wt] 108)).cell? ⟨wr.heap.size,0,none⟩=some (.int .i64 id):=cell_of (hb3.block 0 rfl) rfl
     have y2:(wr.alloc (.cells #[.int .i64 id,.int .u32 addr,.int .i64 wt] 108)).cell? ⟨wr.heap.size,2,none⟩=some (.int .i64 wt):=cell_of (hb3.block 0 rfl) rfl
     have y3:(wr.alloc (.cells #[.int .i64 id,.int .u32 addr,.int .i64 wt] 108)).cell? ⟨g,o+k' * 3,none⟩=some (.int .i64 a.id):=by rw [World.cell?_alloc_lt _ _ _ (World.block_lt_of_cell? _ _ d0)];exact d0
     clear hb3
     by_cases hE:id≤a.id
     ·have HX2:=Lib.hid (HX.out (by unfold gnOk;rw [hmb,hla];simp;omega))
      clear HX HN HK0 hio hall hup hb hlt hk hmb hA hB hin hC hD ha hla hkc
      go_wp2_with fail
      go_region_held3 (fun w'=>w'.cell? ⟨wr.heap.size,0,none⟩=some (.int .i64 id)∧w'.cell? ⟨wr.heap.size,2,none⟩=some (.int .i64 wt)∧w'.cell? ⟨g,o+k' * 3,none⟩=some (.int .i64 a.id)) (first | exact⟨y0,y2,y3⟩ | go_keep) (first | (go_at_call 171;refine (KW.out _).mono ?_;rintro e w5 ⟨rfl,rfl⟩))
      go_wp2_with fail
      go_ret
      exact HX2.out _ (HIO.out _ 1)
     ·have qE:decide (id≤a.id)=false:=decide_eq_false hE
      have HN2:=Lib.hid (HN.out (by unfold gnOk;rw [hmb,hla];simp;omega))
      clear HX HN HK0 hio hall hup hb hlt hk hmb hA hB hin hC hD ha hla hE hkc
      go_wp2_with fail
      go_region_held3 (fun w'=>w'.cell? ⟨wr.heap.size,0,none⟩=some (.int .i64 id)∧w'.cell? ⟨wr.heap.size,2,none⟩=some (.int .i64 wt)∧w'.cell? ⟨g,o+k' * 3,none⟩=some (.int .i64 a.id)) (first | exact⟨y0,y2,y3⟩ | go_keep) (first | (go_at_call 171;refine (KW.out _).mono ?_;rintro e w5 ⟨rfl,rfl⟩))
      go_wp2_with fail
      go_roundw
      case rel=>(try rw [hw2]);(try rw [hw3]);exact HN2.out _ (HIO.out _ 1)
      case measure=>(try rw [hw2]);(try rw [hw3]);exact meas_lt hlt'
  ·have hge:(l.length:Int)≤(k:Int):=Int.ofNat_le.2 (Nat.le_of_not_lt hlt)
   have hkl:l.take k=l:=List.take_of_length_le (Nat.le_of_not_lt hlt)
   rw [hkl] at hall hup
   have e:gensMay l=true:=by
    unfold gensMay
    rw [decide_eq_true HL16.out,hup,List.all_eq_true.2 hall];rfl
   have G:Hid (GnPost (gensMay l) F0 w0 R (.returned (.bool true)) wr):=Lib.hid ⟨by rw [e],hio⟩
   clear hio hkl hall hup hk hlt e
   go_wp2_with fail
   go_ret
   exact G.out
end
end Go.Proofs.YtaopfagclnocdaaGreat
