/- Rows.StoreRefusesSaid -/
import Derived.Test.YtpmmiljakbojaaaGreatRF12
import Derived.Test.YtpmmiljakbojaaaGreatRF16
import Derived.Test.YtpmmiljakbojaaaGreatRF9
namespace Go.Proofs.YtpmmiljakbojaaaGreat
open Go.RowKit Go.Shelf
set_option linter.unusedVariables false
set_option maxHeartbeats 64000000
set_option maxRecDepth 100000
theorem digN_lt:∀ {l:List UInt8},l.all isDig=true→digN l < 10 ^ l.length:=by
 intro l
 have:∀ r:List UInt8,(∀ x∈r,isDig x=true)→digN r.reverse < 10 ^ r.length:=by
  intro r
  induction r with
  | nil=>intro _;decide
  | cons x r ih=>
   intro h
   have h1:=ih (fun y hy=>h y (List.mem_cons_of_mem _ hy))
   have h2:=h x (by simp)
   simp only [isDig,decide_eq_true_eq] at h2
   rw [List.reverse_cons,digN_snoc,List.length_cons,Nat.pow_succ]
   omega
 intro h
 have h1:=this l.reverse (fun x hx=>List.all_eq_true.1 h x (List.mem_reverse.1 hx))
 rwa [List.reverse_reverse,List.length_reverse] at h1
theorem numD_not {n:ByteArray} {h:UInt8} {t:List UInt8} (e:n.data.toList=h::t) (hc:¬ (h=115∧t.length=6∧t.all isDig=true∧0 < digN t)):numD n=none:=by
 unfold numD;rw [e];simp only;rw [if_neg hc]
theorem numD_some {n:ByteArray} {h:UInt8} {t:List UInt8} (e:n.data.toList=h::t) (hc:h=115∧t.length=6∧t.all isDig=true∧0 < digN t):numD n=some (digN t):=by
 unfold numD;rw [e];simp only;rw [if_pos hc]
theorem numD_len {n:ByteArray} (h:n.size≠7):numD n=none:=by
 cases e:n.data.toList with
 | nil=>unfold numD;rw [e]
 | cons a t=>
  refine numD_not e (fun hc=>h ?_)
  have:n.data.toList.length=n.size:=Array.length_toList
  rw [← this,e,List.length_cons,hc.2.1]
def NumRelS (t:List UInt8) (w:World) (q i:Value) (wr:World):Prop:=∃ k:Nat,k≤6∧i=.int .i64 k∧q=.int .i64 (digN (t.take k))∧(t.take k).all isDig=true∧wr=w
theorem idx_str {n:ByteArray} {j:Nat} {x:UInt8} (h:n.data.toList[j]?=some x) (w:World):(Instr.index 9 (.string n) (.int .i64 (j:Int))).run Tryz.prog w=.ok (.int .u8 (x.toNat:Int)) w:=by
 have hl:n.data.toList.length=n.size:=Array.length_toList
 obtain⟨hj,hx⟩:=List.getElem?_eq_some_iff.1 h
 rw [run_index_string w _ _ _ _ Tryz.underlying9,dif_pos ⟨by omega,by omega⟩]
 have:n[(j:Int).toNat]'(by omega)=x:=by
  rw [← hx];simp [ByteArray.getElem_eq_getElem_data]
 rw [this]
section
attribute [-go_sem] run_index_string
theorem o_number (n:ByteArray) (hn:n.size≤maxLen) (w:World):Calls Tryz.prog 89 #[.string n] w fun e w'=>e=.returned (.tuple #[.int .i64 ((numD n).getD 0),.bool (numD n).isSome])∧w'=w:=by
 by_cases h7:n.size=7
 case neg=>
  rw [numD_len h7]
  have q:((n.size:Int) != 7)=true:=by rw [bne_iff_ne];omega
  clear h7
  go_enter Tryz.func89,Tryz.ntmps89
  go_wp2_with fail
  go_ret2
  exact⟨rfl,rfl⟩
 have q:((n.size:Int) != 7)=false:=by rw [h7];rfl
 have hl:n.data.toList.length=7:=by rw [← h7];exact Array.length_toList
 obtain⟨h,t,e⟩:∃ h t,n.data.toList=h::t:=by
  cases e:n.data.toList with
  | nil=>rw [e] at hl;simp at hl
  | cons h t=>exact⟨h,t,rfl⟩
 have ht:t.length=6:=by rw [e] at hl;simpa using hl
 have i0:(Instr.index 9 (.string n) (.int .i64 0)).run Tryz.prog w=.ok (.int .u8 (h.toNat:Int)) w:=idx_str (j:=0) (by rw [e];rfl) w
 by_cases hs:h=115
 case neg=>
  rw [numD_not e (fun hc=>hs hc.1)]
  have q1:((h.toNat:Int) != 115)=true:=by
   rw [bne_iff_ne];intro e2
   exact hs (UInt8.toNat.inj (by rw [show (115:UInt8).toNat=115 from rfl];omega))
  clear e h7 hl ht hs
  go_enter Tryz.func89,Tryz.ntmps89
  go_wp2_with fail
  go_ret2
  exact⟨rfl,rfl⟩
 subst hs
 have HR:Hid (NumRelS t w (.int .i64 0) (.int .i64 0) w):=Lib.hid ⟨0,Nat.zero_le _,rfl,rfl,rfl,rfl⟩
 have E:=Lib.hid e
 have HT:=Lib.hid ht
 clear e h7 hl ht
 go_enter Tryz.func89,Tryz.ntmps89
 go_wp2_with fail
 go_loopw [4,15] (NumRelS t w) (fun _ i _=>6 - (intOf i).toNat)
 case atStart=>exact HR.out
 case round=>
  obtain⟨k,hk,rfl,rfl,hd,rfl⟩:=hrel
  clear HR i0
  by_cases hlt:k < 6
  ·obtain⟨x,hx⟩:∃ x,t[k]?=some x:=⟨t[k]'(by have:=HT.out;omega),List.getElem?_eq_getElem _⟩
   have ik:(Instr.index 9 (.string n) (.int .i64 ((k:Int)+1))).run Tryz.prog wr=.ok (.int .u8 (x.toNat:Int)) wr:=idx_str (n:=n) (j:=k+1) (x:=x) (by rw [E.out,List.getElem?_cons_succ];exact hx) wr
   have hw2:wrap64 ((k:Int)+1)=(k:Int)+1:=by unfold wrap64;omega
   have hxl:=x.toNat_lt
   have HM:Hid (6 - (intOf (Value.int .i64 ((k:Int)+1))).toNat < 6 - (intOf (Value.int .i64 (k:Int))).toNat):=Lib.hid (by simp [intOf];omega)
   have hkd:decide ((k:Int) < 6)=true:=decide_eq_true (by omega)
   by_cases hc:isDig x=true
   ·have hb:=hc
    simp only [isDig,decide_eq_true_eq] at hb
    have c1:decide ((x.toNat:Int) < 48)=false:=decide_eq_false (by omega)
    have c2:decide ((57:Int) < (x.toNat:Int))=false:=decide_eq_false (by omega)
    have hdl:=digN_lt hd
    have hpw:(10:Nat) ^ (t.take k).length≤100000:=by
     rw [List.length_take,HT.out,Nat.min_eq_left (by omega)]
     exact Nat.pow_le_pow_right (by decide) (by omega:k≤5)
    have s1:IntKind.u8.wrap ((x.toNat:Int) - 48)=((x.toNat - 48:Nat):Int):=by
     show ((x.toNat:Int) - 48) % 256=_
     omega
    have s2:wrap64 ((digN (t.take k):Int) * 10)=(digN (t.take k):Int) * 10:=by unfold wrap64;omega
    have s3:wrap64 ((digN (t.take k):Int) * 10+((x.toNat - 48:Nat):Int))=((digN (t.take (k+1)):Nat):Int):=by
     rw [List.take_add_one,hx,Option.toList_some,digN_snoc]
     unfold wrap64;omega
    have s4:wrap64 ((x.toNat - 48:Nat):Int)=((x.toNat - 48:Nat):Int):=by unfold wrap64;omega
    have HR:Hid (NumRelS t wr (.int .i64 (digN (t.take (k+1)))) (.int .i64 ((k:Int)+1)) wr):=Lib.hid ⟨k+1,by omega,by rw [Int.natCast_add];rfl,rfl,by rw [List.take_add_one,hx,Option.toList_some,List.all_append,hd];simp [hc],rfl⟩
    clear hx hxl hc hb hdl hpw hd hk hlt
    go_wp2_with fail
    go_roundw
    case rel=>(rw [s3,hw2]);exact HR.out
    case measure=>(try rw [hw2]);exact HM.out
   ·have hno:¬ (x.toNat ≥ 48∧x.toNat≤57):=by simpa [isDig] using hc
    have hnd:numD n=none:=numD_not E.out (fun hh=>hc (List.all_eq_true.1 hh.2.2.1 x (List.mem_of_getElem? hx)))
    have HND:=Lib.hid hnd
    clear hx hc hnd hd hk hlt
    by_cases h48:x.toNat < 48
    ·have c1:decide ((x.toNat:Int) < 48)=true:=decide_eq_true (by omega)
     clear h48 hno hxl
     go_wp2_with fail
     go_ret2
     exact⟨by rw [HND.out];rfl,rfl⟩
    ·have c1:decide ((x.toNat:Int) < 48)=false:=decide_eq_false (by omega)
     have c2:decide ((57:Int) < (x.toNat:Int))=true:=decide_eq_true (by omega)
     clear h48 hno hxl
     go_wp2_with fail
     go_ret2
     exact⟨by rw [HND.out];rfl,rfl⟩
  ·have hkl:k=6:=by omega
   subst hkl
   have htk:t.take 6=t:=List.take_of_length_le (by rw [HT.out];exact Nat.le_refl _)
   rw [htk] at hd
   have hN:Hid (Value.tuple #[.int .i64 (digN (t.take 6)),.bool (decide (0 < digN (t.take 6)))]=.tuple #[.int .i64 ((numD n).getD 0),.bool (numD n).isSome]):=Lib.hid (by
    rw [htk]
    by_cases h0:0 < digN t
    ·rw [numD_some E.out ⟨rfl,HT.out,hd,h0⟩,decide_eq_true h0];rfl
    ·rw [numD_not E.out (fun hh=>h0 hh.2.2.2),decide_eq_false h0,show digN t=0 by omega];rfl)
   clear hd hlt hk htk
   go_wp2_with fail
   go_ret2
   exact⟨congrArg Ending.returned hN.out,rfl⟩
end
section
variable {F0:List Nat} {w0 w:World} {R:List Asrt} {bd:Nat} {d:DiskD}
theorem sorted_names2 {bn:Nat} {ads:List Nat} {N:NmL} {F:List Nat} (hF:NTab bn ads N w F) (h:In F0 w0 w R) (hN:NmRow N) (hl:N.length≤1024) :
  Calls Tryz.prog 35 #[.func (.func 94) #[] #[.pointer (some ⟨w.heap.size,0,none⟩)]] (w.alloc (.cells #[.map (some bn)] 61)) fun e w'=>∃ a cap,e=.returned (.slice a N.length cap)∧In F0 w0 w' (NmRowA (.slice a N.length cap) N::R):=by
 obtain⟨D0,hown,hp,hs⟩:=own_strs hF hN hl
 have hbl:=hown.lt
 have hseq:SeqGives Fence.wide 2 Tryz.prog 94 #[.pointer (some ⟨w.heap.size,0,none⟩)] encStr (fun ss=>ss.Perm (Go.strKeys D0)) (Maps.size D0) (w.alloc (.cells #[.map (some bn)] 61)):=
  AnyZ.keys_gives (ρ:=Tryz.keysS_ren) { Tryz.keysS with } Fence.wide _ trivial rfl (by omega) w.heap.size bn N.length D0 _ (by simp) (by simp) (by
   obtain⟨es,clock,hb,Ft,hs,hD⟩:=hown
   exact⟨es,clock,(Below.heap_alloc _ _ bn hbl).trans hb,Ft,hs,hD⟩)
 have cS:=AnyZ.sorted_in Tryz.sortedS Fence.wide 5 trivial trivial trivial trivial rfl (by omega) (nsorts_in _) (enters_of Tryz.func93 (by kernel_rfl) rfl) 94 #[.pointer (some ⟨w.heap.size,0,none⟩)] trivial (enters_of Tryz.func94 (by kernel_rfl) rfl) _ _ (by rw [hs];unfold maxLen;omega) (by rw [hs];omega) _ hseq
 change CallsIn _ _ Tryz.prog 35 _ _ _ at cS
 refine ((callsIn_wide (n:=5)).1 cS).mono fun e w' ⟨v,ss,he,h1,h2,_,h4⟩=>?_
 have hp2:=h1.trans hp
 rw [names_sorted hN hp2,hp2.length_eq,show (nmL N).length=N.length by simp [nmL]] at h2
 obtain⟨hr1,hr2⟩:=row_new h2
 obtain⟨a,cap,rfl,-,-,-⟩:=hr1.shape
 exact⟨a,cap,he,In.below (h.alloc (.cells #[.map (some bn)] 61)) h4 (RowA.framed _ _ _ _ _) hr1 hr2⟩
theorem o_dnames (h:In F0 w0 w R) (i:Nat) (hA:R[i]?=some (DkA bd d)):Calls Tryz.prog 12 #[dptr bd] w fun e w'=>∃ a c,e=.returned (.slice a d.now.length c)∧In F0 w0 w' (NmRowA (.slice a d.now.length c) d.now::R):=by
 obtain⟨F,hok,bn,bsu,vch,ads,hl,hF⟩:=h.get i hA
 have h1:=In.start DkR.framed hF
 have c1:w.cell? ⟨bd,1,none⟩=some (.map (some bn)):=cell_of (h1.block 0 dkR_cells) rfl
 obtain⟨F1,hn⟩:=h1.get 1 dkR_now
 have K:=Lib.hid (sorted_names2 hn h hok.now.row (Nat.le_trans hok.now.few (by decide)))
 clear h h1 hF hA hok hl hn
 go_enter Tryz.func12,Tryz.ntmps12
 go_wp2_with fail
 refine (nkeys_call _ _).mono ?_
 rintro e w1 ⟨rfl,rfl⟩
 go_wp2_with fail
 refine K.out.mono ?_
 rintro e w2 ⟨a,c,rfl,g⟩
 have G:=Lib.hid g
 clear g K c1
 go_wp2_with fail
 go_ret
 exact⟨_,_,rfl,G.out⟩
end
end Go.Proofs.YtpmmiljakbojaaaGreat
