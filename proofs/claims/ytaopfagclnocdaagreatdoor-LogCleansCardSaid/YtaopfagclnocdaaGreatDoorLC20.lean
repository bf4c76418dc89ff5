/- Rows.LogCleansCardSaid -/
import Derived.Test.YtaopfagclnocdaaGreatDoorLC18
namespace Go.Proofs.YtaopfagclnocdaaGreatDoor
open Go.RowKit Go.Shelf
set_option linter.unusedVariables false
set_option maxHeartbeats 64000000
set_option maxRecDepth 100000
def NumRelQ (t:List UInt8) (w:World) (q i:Value) (wr:World):Prop:=∃ k:Nat,k≤6∧i=.int .i64 ((k:Int)+1)∧q=.int .i64 (digN (t.take k))∧(t.take k).all isDig=true∧wr=w
section
attribute [-go_sem] run_index_string
theorem q_segnum (n:ByteArray) (hn:n.size≤maxLen) (w:World):Calls Tryz.prog 18 #[.string n] w fun e w'=>e=.returned (.tuple #[.int .i64 ((numD n).getD 0),.bool (numD n).isSome])∧w'=w:=by
 by_cases h7:n.size=7
 case neg=>
  rw [numD_len h7]
  have q:((n.size:Int) != 7)=true:=by rw [bne_iff_ne];omega
  clear h7
  go_enter Tryz.func18,Tryz.ntmps18
  go_wp2_with fail
  go_ret2
  exact⟨rfl,rfl⟩
 have q:((n.size:Int) != 7)=false:=by rw [h7];rfl
 have hl:n.data.toList.length=7:=by rw [← h7];exact Array.length_toList
 obtain⟨h,t,e⟩:∃ h t,n.data.toList=h::t:=by
  cases e:n.data.toList with
  | nil=>rw [e] at hl;simp at hl
  | cons h t=>exact⟨h,t,rfl⟩
 have ht:t.length=6:=by rw [e] at hl;simpa using hl
 have i0:(Instr.index 9 (.string n) (.int .i64 0)).run Tryz.prog w=.ok (.int .u8 (h.toNat:Int)) w:=idx_str (j:=0) (by rw [e];rfl) w
 by_cases hs:h=115
 case neg=>
  rw [numD_not e (fun hc=>hs hc.1)]
  have q1:((h.toNat:Int) != 115)=true:=by
   rw [bne_iff_ne];intro e2
   exact hs (UInt8.toNat.inj (by rw [show (115:UInt8).toNat=115 from rfl];omega))
  clear e h7 hl ht hs
  go_enter Tryz.func18,Tryz.ntmps18
  go_wp2_with fail
  go_ret2
  exact⟨rfl,rfl⟩
 subst hs
 have HR:Hid (NumRelQ t w (.int .i64 0) (.int .i64 1) w):=Lib.hid ⟨0,Nat.zero_le _,rfl,rfl,rfl,rfl⟩
 have E:=Lib.hid e
 have HT:=Lib.hid ht
 clear e h7 hl ht
 go_enter Tryz.func18,Tryz.ntmps18
 go_wp2_with fail
 go_loopw [4,5] (NumRelQ t w) (fun _ i _=>7 - (intOf i).toNat)
 case atStart=>exact HR.out
 case round=>
  obtain⟨k,hk,rfl,rfl,hd,rfl⟩:=hrel
  clear HR i0
  by_cases hlt:k < 6
  ·obtain⟨x,hx⟩:∃ x,t[k]?=some x:=⟨t[k]'(by have:=HT.out;omega),List.getElem?_eq_getElem _⟩
   have ik:(Instr.index 9 (.string n) (.int .i64 ((k:Int)+1))).run Tryz.prog wr=.ok (.int .u8 (x.toNat:Int)) wr:=idx_str (n:=n) (j:=k+1) (x:=x) (by rw [E.out,List.getElem?_cons_succ];exact hx) wr
   have hw2:wrap64 ((k:Int)+1+1)=(k:Int)+1+1:=by unfold wrap64;omega
   have hxl:=x.toNat_lt
   have HM:Hid (7 - (intOf (Value.int .i64 ((k:Int)+1+1))).toNat < 7 - (intOf (Value.int .i64 ((k:Int)+1))).toNat):=Lib.hid (by simp [intOf];omega)
   have hkd:decide ((k:Int)+1 < 7)=true:=decide_eq_true (by omega)
   have hkd2:(k:Int)+1 < 7:=by omega
   by_cases hc:isDig x=true
   ·have hb:=hc
    simp only [isDig,decide_eq_true_eq] at hb
    have c1:decide ((x.toNat:Int) < 48)=false:=decide_eq_false (by omega)
    have c2:decide ((57:Int) < (x.toNat:Int))=false:=decide_eq_false (by omega)
    have hdl:=digN_lt hd
    have hpw:(10:Nat) ^ (t.take k).length≤100000:=by
     rw [List.length_take,HT.out,Nat.min_eq_left (by omega)]
     exact Nat.pow_le_pow_right (by decide) (by omega:k≤5)
    have s1:IntKind.u8.wrap ((x.toNat:Int) - 48)=((x.toNat - 48:Nat):Int):=by
     show ((x.toNat:Int) - 48) % 256=_
     omega
    have s2:wrap64 (10 * (digN (t.take k):Int))=10 * (digN (t.take k):Int):=by unfold wrap64;omega
    have s3:wrap64 (10 * (digN (t.take k):Int)+((x.toNat - 48:Nat):Int))=((digN (t.take (k+1)):Nat):Int):=by
     rw [List.take_add_one,hx,Option.toList_some,digN_snoc]
     unfold wrap64;omega
    have s4:wrap64 ((x.toNat - 48:Nat):Int)=((x.toNat - 48:Nat):Int):=by unfold wrap64;omega
    have HR:Hid (NumRelQ t wr (.int .i64 (digN (t.take (k+1)))) (.int .i64 ((k:Int)+1+1)) wr):=Lib.hid ⟨k+1,by omega,by rw [Int.natCast_add];rfl,rfl,by rw [List.take_add_one,hx,Option.toList_some,List.all_append,hd];simp [hc],rfl⟩
    clear hx hxl hc hb hdl hpw hd hk hlt
    go_wp2_with fail
    go_roundw
    case rel=>(try rw [s3]);(try rw [hw2]);exact HR.out
    case measure=>(try rw [hw2]);exact HM.out
   ·have hno:¬ (x.toNat ≥ 48∧x.toNat≤57):=by simpa [isDig] using hc
    have hnd:numD n=none:=numD_not E.out (fun hh=>hc (List.all_eq_true.1 hh.2.2.1 x (List.mem_of_getElem? hx)))
    have HND:=Lib.hid hnd
    clear hx hc hnd hd hk hlt
    by_cases h48:x.toNat < 48
    ·have c1:decide ((x.toNat:Int) < 48)=true:=decide_eq_true (by omega)
     clear h48 hno hxl
     go_wp2_with fail
     go_ret2
     exact⟨by rw [HND.out];rfl,rfl⟩
    ·have c1:decide ((x.toNat:Int) < 48)=false:=decide_eq_false (by omega)
     have c2:decide ((57:Int) < (x.toNat:Int))=true:=decide_eq_true (by omega)
     clear h48 hno hxl
     go_wp2_with fail
     go_ret2
     exact⟨by rw [HND.out];rfl,rfl⟩
  ·have hkl:k=6:=by omega
   have hnd7:¬ ((k:Int)+1 < 7):=by omega
   have hnd8:decide ((k:Int)+1 < 7)=false:=decide_eq_false hnd7
   subst hkl
   have htk:t.take 6=t:=List.take_of_length_le (by rw [HT.out];exact Nat.le_refl _)
   rw [htk] at hd
   have hN:Hid (Value.tuple #[.int .i64 (digN (t.take 6)),.bool (decide (0 < digN (t.take 6)))]=.tuple #[.int .i64 ((numD n).getD 0),.bool (numD n).isSome]):=Lib.hid (by
    rw [htk]
    by_cases h0:0 < digN t
    ·rw [numD_some E.out ⟨rfl,HT.out,hd,h0⟩,decide_eq_true h0];rfl
    ·rw [numD_not E.out (fun hh=>h0 hh.2.2.2),decide_eq_false h0,show digN t=0 by omega];rfl)
   clear hd hlt hk htk
   go_wp2_with fail
   go_ret2
   exact⟨congrArg Ending.returned hN.out,rfl⟩
end
end Go.Proofs.YtaopfagclnocdaaGreatDoor
