/- Rows.StoreRefusesSaid -/
import Derived.Test.YtpmmiljakbojaaaGreatRF21
import Derived.Laws.StructEq
import Derived.BigQuiet
import Derived.Deep.QuietTactic
namespace Go.Proofs.YtpmmiljakbojaaaGreat
open Go.RowKit
set_option linter.unusedVariables false
set_option maxHeartbeats 64000000
set_option maxRecDepth 100000
theorem flat_at {α:Type} {enc:α→List Value} {k:Nat} (hk:∀ x,(enc x).length=k):∀ {l:List α} {i:Nat} {x:α},l[i]?=some x→∀ j,j < k→((l.map enc).flatten)[i * k+j]?=(enc x)[j]?
 | [],_,_,h,_,_=>by simp at h
 | y::l,0,x,h,j,hj=>by
  simp at h;subst h
  rw [Nat.zero_mul,Nat.zero_add,List.map_cons,List.flatten_cons,List.getElem?_append_left (by rw [hk];exact hj)]
 | y::l,i+1,x,h,j,hj=>by
  have h':l[i]?=some x:=by simpa using h
  rw [List.map_cons,List.flatten_cons,List.getElem?_append_right (by rw [hk,Nat.succ_mul];omega),hk,show (i+1) * k+j - k=i * k+j by rw [Nat.succ_mul];omega]
  exact flat_at hk h' j hj
def RowV (F0:List Nat) (w0:World) (R:List Asrt) (A:Option Addr) (n k:Nat) (xs:List Value):Prop:=∀ w',In F0 w0 w' R→Src w' A n k xs
abbrev encDr (d:Int×Int):List Value:=[.int .i64 d.1,.int .i64 d.2]
abbrev encFs (f:Fl):List Value:=[.int .u32 f.t.src,.int .u32 f.t.dst,.int .i64 f.t.proto,.int .i64 f.t.sport,.int .i64 f.t.dport,.int .i64 f.bk,.int .i64 f.gen,.int .i64 f.seen]
theorem ne_bk (x y:Bk) (w:World):(binOp .neq 119 (.agg (encB x).toArray) (.agg (encB y).toArray)).run Tryz.prog w=.ok (.bool (!decide (x=y))) w:=by
 rw [run_neq_struct,run_equalIn_agg]
 ·go_simp
  rw [show decide (x=y)=decide (x.id=y.id∧x.addr=y.addr∧x.weight=y.weight) from decide_eq_decide.2 (by obtain⟨a1,a2,a3⟩:=x;obtain⟨b1,b2,b3⟩:=y;simp)]
  repeat' split
  all_goals simp_all
 ·kernel_rfl
 ·kernel_rfl
theorem ne_dr (x y:Int×Int) (w:World):(binOp .neq 125 (.agg (encDr x).toArray) (.agg (encDr y).toArray)).run Tryz.prog w=.ok (.bool (!decide (x=y))) w:=by
 rw [run_neq_struct,run_equalIn_agg]
 ·go_simp
  rw [show decide (x=y)=decide (x.1=y.1∧x.2=y.2) from decide_eq_decide.2 (by obtain⟨a1,a2⟩:=x;obtain⟨b1,b2⟩:=y;simp)]
  repeat' split
  all_goals simp_all
 ·kernel_rfl
 ·kernel_rfl
theorem ne_fl (x y:Fl) (w:World):(binOp .neq 36 (.agg (encFs x).toArray) (.agg (encFs y).toArray)).run Tryz.prog w=.ok (.bool (!decide (x=y))) w:=by
 rw [run_neq_struct,run_equalIn_agg]
 ·go_simp
  rw [show decide (x=y)=decide ((x.t.src=y.t.src∧x.t.dst=y.t.dst∧x.t.proto=y.t.proto∧x.t.sport=y.t.sport∧x.t.dport=y.t.dport)∧x.bk=y.bk∧x.gen=y.gen∧x.seen=y.seen) from decide_eq_decide.2 (by obtain⟨⟨a1,a2,a3,a4,a5⟩,a6,a7,a8⟩:=x;obtain⟨⟨b1,b2,b3,b4,b5⟩,b6,b7,b8⟩:=y;simp)]
  repeat' split
  all_goals simp_all
 ·kernel_rfl
 ·kernel_rfl
attribute [-go_sem] run_neq_struct
section
variable {F0:List Nat} {w0 w:World} {R:List Asrt}
def EqRel {α:Type} (l1 l2:List α) (F0:List Nat) (w0:World) (R:List Asrt) (i:Value) (wr:World):Prop:=∃ k:Nat,k≤l1.length∧i=.int .i64 k∧l1.take k=l2.take k∧In F0 w0 wr R
theorem eq_step {α:Type} {l1 l2:List α} {k:Nat} {x y:α} (hx:l1[k]?=some x) (hy:l2[k]?=some y) (ht:l1.take k=l2.take k) (e:x=y) (h:In F0 w0 w R):EqRel l1 l2 F0 w0 R (.int .i64 ((k:Int)+1)) w:=
 ⟨k+1,(List.getElem?_eq_some_iff.1 hx).1,by rw [Int.natCast_add];rfl,by rw [List.take_add_one,List.take_add_one,hx,hy,ht,e],h⟩
theorem o_eqbk {l1 l2:List Bk} {A1 A2:Option Addr} {c1 c2:Nat} (h1:RowV F0 w0 R A1 l1.length 3 ((l1.map encB).flatten)) (h2:RowV F0 w0 R A2 l2.length 3 ((l2.map encB).flatten)) (hl:l1.length≤1000000) (h:In F0 w0 w R):Calls Tryz.prog 178 #[.slice A1 l1.length c1,.slice A2 l2.length c2] w fun e w'=>e=.returned (.bool (decide (l1=l2)))∧In F0 w0 w' R:=by
 by_cases hlen:l1.length=l2.length
 case neg=>
  have hd:decide (l1=l2)=false:=decide_eq_false (fun e=>hlen (by rw [e]))
  have q:((l1.length:Int) != (l2.length:Int))=true:=by rw [bne_iff_ne];omega
  have G:=Lib.hid h
  rw [hd]
  clear h h1 h2 hlen hd hl
  go_enter Tryz.func178,Tryz.ntmps178
  go_wp2_with fail
  go_ret
  exact⟨rfl,G.out⟩
 have HA:=Lib.hid h1
 have HB:=Lib.hid h2
 have HR:Hid (EqRel l1 l2 F0 w0 R (.int .i64 0) w):=Lib.hid ⟨0,Nat.zero_le _,rfl,rfl,h⟩
 have HLN:=Lib.hid hlen
 have q:((l1.length:Int) != (l2.length:Int))=false:=by simp [hlen]
 clear h h1 h2 hlen
 go_enter Tryz.func178,Tryz.ntmps178
 go_wp2_with fail
 go_loopw [13] (EqRel l1 l2 F0 w0 R) (fun k _=>l1.length - (intOf k).toNat)
 case atStart=>exact HR.out
 case round=>
  obtain⟨k,hk,rfl,ht,ho⟩:=hrel
  clear HR
  by_cases hlt:k < l1.length
  ·obtain⟨x,hx⟩:∃ x,l1[k]?=some x:=⟨l1[k],List.getElem?_eq_getElem hlt⟩
   obtain⟨y,hy⟩:∃ y,l2[k]?=some y:=⟨l2[k]'(by rw [← HLN.out];exact hlt),List.getElem?_eq_getElem _⟩
   obtain⟨g1,o1,rfl,s1⟩:=(HA.out wr ho).plain (by omega) (by decide)
   obtain⟨g2,o2,rfl,s2⟩:=(HB.out wr ho).plain (by rw [← HLN.out];omega) (by decide)
   have c0:wr.cell? ⟨g1,o1+k * 3,none⟩=some (.int .i64 x.id):=by
    have:=s1 (k * 3+0) _ (by rw [flat_at (enc:=encB) (k:=3) (fun _=>rfl) hx 0 (by decide)];rfl)
    rwa [← Nat.add_assoc] at this
   have c1:wr.cell? ⟨g1,o1+k * 3+1,none⟩=some (.int .u32 x.addr):=by
    have:=s1 (k * 3+1) _ (by rw [flat_at (enc:=encB) (k:=3) (fun _=>rfl) hx 1 (by decide)];rfl)
    rwa [← Nat.add_assoc] at this
   have c2:wr.cell? ⟨g1,o1+k * 3+2,none⟩=some (.int .i64 x.weight):=by
    have:=s1 (k * 3+2) _ (by rw [flat_at (enc:=encB) (k:=3) (fun _=>rfl) hx 2 (by decide)];rfl)
    rwa [← Nat.add_assoc] at this
   have d0:wr.cell? ⟨g2,o2+k * 3,none⟩=some (.int .i64 y.id):=by
    have:=s2 (k * 3+0) _ (by rw [flat_at (enc:=encB) (k:=3) (fun _=>rfl) hy 0 (by decide)];rfl)
    rwa [← Nat.add_assoc] at this
   have d1:wr.cell? ⟨g2,o2+k * 3+1,none⟩=some (.int .u32 y.addr):=by
    have:=s2 (k * 3+1) _ (by rw [flat_at (enc:=encB) (k:=3) (fun _=>rfl) hy 1 (by decide)];rfl)
    rwa [← Nat.add_assoc] at this
   have d2:wr.cell? ⟨g2,o2+k * 3+2,none⟩=some (.int .i64 y.weight):=by
    have:=s2 (k * 3+2) _ (by rw [flat_at (enc:=encB) (k:=3) (fun _=>rfl) hy 2 (by decide)];rfl)
    rwa [← Nat.add_assoc] at this
   have hlt':(k:Int) < (l1.length:Int):=Int.ofNat_lt.2 hlt
   have hltb:(k:Int) < (l2.length:Int):=by rw [← HLN.out];exact hlt'
   have hw2:wrap64 ((k:Int)+1)=(k:Int)+1:=by unfold wrap64;omega
   have hne:=fun w=>ne_bk x y w
   have hm:Tryz.prog.eqGuardType Tryz.prog.depth 119=false:=by kernel_rfl
   clear s1 s2
   by_cases hxy:x=y
   ·have HN:Hid (∀ n,EqRel l1 l2 F0 w0 R (.int .i64 ((k:Int)+1)) (wr.drewN n)):=Lib.hid fun n=>eq_step hx hy ht hxy (ho.drewN n)
    rw [show decide (x=y)=true from decide_eq_true hxy] at hne
    clear ho hx hy ht hk hlt hxy HA HB HLN
    go_wp2_with fail
    go_quiet (fail)
    go_wp2_with fail
    go_roundw
    case rel=>(try rw [hw2]);exact HN.out _
    case measure=>(try rw [hw2]);exact meas_lt hlt'
   ·have HD:Hid (decide (l1=l2)=false):=Lib.hid (by
     rw [decide_eq_false_iff_not]
     intro e;rw [e,hy] at hx;exact hxy (Option.some.inj hx).symm)
    have HN:=Lib.hid fun n=>ho.drewN n
    rw [show decide (x=y)=false from decide_eq_false hxy] at hne
    clear ho hx hy ht hk hlt hxy HA HB HLN
    go_wp2_with fail
    go_quiet (fail)
    go_wp2_with fail
    go_ret
    exact⟨by rw [HD.out];rfl,HN.out _⟩
  ·have hge:(l1.length:Int)≤(k:Int):=Int.ofNat_le.2 (Nat.le_of_not_lt hlt)
   have HD:Hid (decide (l1=l2)=true):=Lib.hid (by
    rw [decide_eq_true_eq]
    rw [List.take_of_length_le (Nat.le_of_not_lt hlt),List.take_of_length_le (by rw [← HLN.out];exact Nat.le_of_not_lt hlt)] at ht
    exact ht)
   have HN:=Lib.hid ho
   clear ho ht hk hlt HA HB HLN
   go_wp2_with fail
   go_ret
   exact⟨by rw [HD.out];rfl,HN.out⟩
theorem o_eqdr {l1 l2:List (Int×Int)} {A1 A2:Option Addr} {c1 c2:Nat} (h1:RowV F0 w0 R A1 l1.length 2 ((l1.map encDr).flatten)) (h2:RowV F0 w0 R A2 l2.length 2 ((l2.map encDr).flatten)) (hl:l1.length≤1000000) (h:In F0 w0 w R):Calls Tryz.prog 179 #[.slice A1 l1.length c1,.slice A2 l2.length c2] w fun e w'=>e=.returned (.bool (decide (l1=l2)))∧In F0 w0 w' R:=by
 by_cases hlen:l1.length=l2.length
 case neg=>
  have hd:decide (l1=l2)=false:=decide_eq_false (fun e=>hlen (by rw [e]))
  have q:((l1.length:Int) != (l2.length:Int))=true:=by rw [bne_iff_ne];omega
  have G:=Lib.hid h
  rw [hd]
  clear h h1 h2 hlen hd hl
  go_enter Tryz.func179,Tryz.ntmps179
  go_wp2_with fail
  go_ret
  exact⟨rfl,G.out⟩
 have HA:=Lib.hid h1
 have HB:=Lib.hid h2
 have HR:Hid (EqRel l1 l2 F0 w0 R (.int .i64 0) w):=Lib.hid ⟨0,Nat.zero_le _,rfl,rfl,h⟩
 have HLN:=Lib.hid hlen
 have q:((l1.length:Int) != (l2.length:Int))=false:=by simp [hlen]
 clear h h1 h2 hlen
 go_enter Tryz.func179,Tryz.ntmps179
 go_wp2_with fail
 go_loopw [13] (EqRel l1 l2 F0 w0 R) (fun k _=>l1.length - (intOf k).toNat)
 case atStart=>exact HR.out
 case round=>
  obtain⟨k,hk,rfl,ht,ho⟩:=hrel
  clear HR
  by_cases hlt:k < l1.length
  ·obtain⟨x,hx⟩:∃ x,l1[k]?=some x:=⟨l1[k],List.getElem?_eq_getElem hlt⟩
   obtain⟨y,hy⟩:∃ y,l2[k]?=some y:=⟨l2[k]'(by rw [← HLN.out];exact hlt),List.getElem?_eq_getElem _⟩
   obtain⟨g1,o1,rfl,s1⟩:=(HA.out wr ho).plain (by omega) (by decide)
   obtain⟨g2,o2,rfl,s2⟩:=(HB.out wr ho).plain (by rw [← HLN.out];omega) (by decide)
   have c0:wr.cell? ⟨g1,o1+k * 2,none⟩=some (.int .i64 x.1):=by
    have:=s1 (k * 2+0) _ (by rw [flat_at (enc:=encDr) (k:=2) (fun _=>rfl) hx 0 (by decide)];rfl)
    rwa [← Nat.add_assoc] at this
   have c1:wr.cell? ⟨g1,o1+k * 2+1,none⟩=some (.int .i64 x.2):=by
    have:=s1 (k * 2+1) _ (by rw [flat_at (enc:=encDr) (k:=2) (fun _=>rfl) hx 1 (by decide)];rfl)
    rwa [← Nat.add_assoc] at this
   have d0:wr.cell? ⟨g2,o2+k * 2,none⟩=some (.int .i64 y.1):=by
    have:=s2 (k * 2+0) _ (by rw [flat_at (enc:=encDr) (k:=2) (fun _=>rfl) hy 0 (by decide)];rfl)
    rwa [← Nat.add_assoc] at this
   have d1:wr.cell? ⟨g2,o2+k * 2+1,none⟩=some (.int .i64 y.2):=by
    have:=s2 (k * 2+1) _ (by rw [flat_at (enc:=encDr) (k:=2) (fun _=>rfl) hy 1 (by decide)];rfl)
    rwa [← Nat.add_assoc] at this
   have hlt':(k:Int) < (l1.length:Int):=Int.ofNat_lt.2 hlt
   have hltb:(k:Int) < (l2.length:Int):=by rw [← HLN.out];exact hlt'
   have hw2:wrap64 ((k:Int)+1)=(k:Int)+1:=by unfold wrap64;omega
   have hne:=fun w=>ne_dr x y w
   have hm:Tryz.prog.eqGuardType Tryz.prog.depth 125=false:=by kernel_rfl
   clear s1 s2
   by_cases hxy:x=y
   ·have HN:Hid (∀ n,EqRel l1 l2 F0 w0 R (.int .i64 ((k:Int)+1)) (wr.drewN n)):=Lib.hid fun n=>eq_step hx hy ht hxy (ho.drewN n)
    rw [show decide (x=y)=true from decide_eq_true hxy] at hne
    clear ho hx hy ht hk hlt hxy HA HB HLN
    go_wp2_with fail
    go_quiet (fail)
    go_wp2_with fail
    go_roundw
    case rel=>(try rw [hw2]);exact HN.out _
    case measure=>(try rw [hw2]);exact meas_lt hlt'
   ·have HD:Hid (decide (l1=l2)=false):=Lib.hid (by
     rw [decide_eq_false_iff_not]
     intro e;rw [e,hy] at hx;exact hxy (Option.some.inj hx).symm)
    have HN:=Lib.hid fun n=>ho.drewN n
    rw [show decide (x=y)=false from decide_eq_false hxy] at hne
    clear ho hx hy ht hk hlt hxy HA HB HLN
    go_wp2_with fail
    go_quiet (fail)
    go_wp2_with fail
    go_ret
    exact⟨by rw [HD.out];rfl,HN.out _⟩
  ·have hge:(l1.length:Int)≤(k:Int):=Int.ofNat_le.2 (Nat.le_of_not_lt hlt)
   have HD:Hid (decide (l1=l2)=true):=Lib.hid (by
    rw [decide_eq_true_eq]
    rw [List.take_of_length_le (Nat.le_of_not_lt hlt),List.take_of_length_le (by rw [← HLN.out];exact Nat.le_of_not_lt hlt)] at ht
    exact ht)
   have HN:=Lib.hid ho
   clear ho ht hk hlt HA HB HLN
   go_wp2_with fail
   go_ret
   exact⟨by rw [HD.out];rfl,HN.out⟩
theorem o_eqfl {l1 l2:List Fl} {A1 A2:Option Addr} {c1 c2:Nat} (h1:RowV F0 w0 R A1 l1.length 8 ((l1.map encFs).flatten)) (h2:RowV F0 w0 R A2 l2.length 8 ((l2.map encFs).flatten)) (hl:l1.length≤1000000) (h:In F0 w0 w R):Calls Tryz.prog 180 #[.slice A1 l1.length c1,.slice A2 l2.length c2] w fun e w'=>e=.returned (.bool (decide (l1=l2)))∧In F0 w0 w' R:=by
 by_cases hlen:l1.length=l2.length
 case neg=>
  have hd:decide (l1=l2)=false:=decide_eq_false (fun e=>hlen (by rw [e]))
  have q:((l1.length:Int) != (l2.length:Int))=true:=by rw [bne_iff_ne];omega
  have G:=Lib.hid h
  rw [hd]
  clear h h1 h2 hlen hd hl
  go_enter Tryz.func180,Tryz.ntmps180
  go_wp2_with fail
  go_ret
  exact⟨rfl,G.out⟩
 have HA:=Lib.hid h1
 have HB:=Lib.hid h2
 have HR:Hid (EqRel l1 l2 F0 w0 R (.int .i64 0) w):=Lib.hid ⟨0,Nat.zero_le _,rfl,rfl,h⟩
 have HLN:=Lib.hid hlen
 have q:((l1.length:Int) != (l2.length:Int))=false:=by simp [hlen]
 clear h h1 h2 hlen
 go_enter Tryz.func180,Tryz.ntmps180
 go_wp2_with fail
 go_loopw [13] (EqRel l1 l2 F0 w0 R) (fun k _=>l1.length - (intOf k).toNat)
 case atStart=>exact HR.out
 case round=>
  obtain⟨k,hk,rfl,ht,ho⟩:=hrel
  clear HR
  by_cases hlt:k < l1.length
  ·obtain⟨x,hx⟩:∃ x,l1[k]?=some x:=⟨l1[k],List.getElem?_eq_getElem hlt⟩
   obtain⟨y,hy⟩:∃ y,l2[k]?=some y:=⟨l2[k]'(by rw [← HLN.out];exact hlt),List.getElem?_eq_getElem _⟩
   obtain⟨g1,o1,rfl,s1⟩:=(HA.out wr ho).plain (by omega) (by decide)
   obtain⟨g2,o2,rfl,s2⟩:=(HB.out wr ho).plain (by rw [← HLN.out];omega) (by decide)
   have c0:wr.cell? ⟨g1,o1+k * 8,none⟩=some (.int .u32 x.t.src):=by
    have:=s1 (k * 8+0) _ (by rw [flat_at (enc:=encFs) (k:=8) (fun _=>rfl) hx 0 (by decide)];rfl)
    rwa [← Nat.add_assoc] at this
   have c1:wr.cell? ⟨g1,o1+k * 8+1,none⟩=some (.int .u32 x.t.dst):=by
    have:=s1 (k * 8+1) _ (by rw [flat_at (enc:=encFs) (k:=8) (fun _=>rfl) hx 1 (by decide)];rfl)
    rwa [← Nat.add_assoc] at this
   have c2:wr.cell? ⟨g1,o1+k * 8+2,none⟩=some (.int .i64 x.t.proto):=by
    have:=s1 (k * 8+2) _ (by rw [flat_at (enc:=encFs) (k:=8) (fun _=>rfl) hx 2 (by decide)];rfl)
    rwa [← Nat.add_assoc] at this
   have c3:wr.cell? ⟨g1,o1+k * 8+3,none⟩=some (.int .i64 x.t.sport):=by
    have:=s1 (k * 8+3) _ (by rw [flat_at (enc:=encFs) (k:=8) (fun _=>rfl) hx 3 (by decide)];rfl)
    rwa [← Nat.add_assoc] at this
   have c4:wr.cell? ⟨g1,o1+k * 8+4,none⟩=some (.int .i64 x.t.dport):=by
    have:=s1 (k * 8+4) _ (by rw [flat_at (enc:=encFs) (k:=8) (fun _=>rfl) hx 4 (by decide)];rfl)
    rwa [← Nat.add_assoc] at this
   have c5:wr.cell? ⟨g1,o1+k * 8+5,none⟩=some (.int .i64 x.bk):=by
    have:=s1 (k * 8+5) _ (by rw [flat_at (enc:=encFs) (k:=8) (fun _=>rfl) hx 5 (by decide)];rfl)
    rwa [← Nat.add_assoc] at this
   have c6:wr.cell? ⟨g1,o1+k * 8+6,none⟩=some (.int .i64 x.gen):=by
    have:=s1 (k * 8+6) _ (by rw [flat_at (enc:=encFs) (k:=8) (fun _=>rfl) hx 6 (by decide)];rfl)
    rwa [← Nat.add_assoc] at this
   have c7:wr.cell? ⟨g1,o1+k * 8+7,none⟩=some (.int .i64 x.seen):=by
    have:=s1 (k * 8+7) _ (by rw [flat_at (enc:=encFs) (k:=8) (fun _=>rfl) hx 7 (by decide)];rfl)
    rwa [← Nat.add_assoc] at this
   have d0:wr.cell? ⟨g2,o2+k * 8,none⟩=some (.int .u32 y.t.src):=by
    have:=s2 (k * 8+0) _ (by rw [flat_at (enc:=encFs) (k:=8) (fun _=>rfl) hy 0 (by decide)];rfl)
    rwa [← Nat.add_assoc] at this
   have d1:wr.cell? ⟨g2,o2+k * 8+1,none⟩=some (.int .u32 y.t.dst):=by
    have:=s2 (k * 8+1) _ (by rw [flat_at (enc:=encFs) (k:=8) (fun _=>rfl) hy 1 (by decide)];rfl)
    rwa [← Nat.add_assoc] at this
   have d2:wr.cell? ⟨g2,o2+k * 8+2,none⟩=some (.int .i64 y.t.proto):=by
    have:=s2 (k * 8+2) _ (by rw [flat_at (enc:=encFs) (k:=8) (fun _=>rfl) hy 2 (by decide)];rfl)
    rwa [← Nat.add_assoc] at this
   have d3:wr.cell? ⟨g2,o2+k * 8+3,none⟩=some (.int .i64 y.t.sport):=by
    have:=s2 (k * 8+3) _ (by rw [flat_at (enc:=encFs) (k:=8) (fun _=>rfl) hy 3 (by decide)];rfl)
    rwa [← Nat.add_assoc] at this
   have d4:wr.cell? ⟨g2,o2+k * 8+4,none⟩=some (.int .i64 y.t.dport):=by
    have:=s2 (k * 8+4) _ (by rw [flat_at (enc:=encFs) (k:=8) (fun _=>rfl) hy 4 (by decide)];rfl)
    rwa [← Nat.add_assoc] at this
   have d5:wr.cell? ⟨g2,o2+k * 8+5,none⟩=some (.int .i64 y.bk):=by
    have:=s2 (k * 8+5) _ (by rw [flat_at (enc:=encFs) (k:=8) (fun _=>rfl) hy 5 (by decide)];rfl)
    rwa [← Nat.add_assoc] at this
   have d6:wr.cell? ⟨g2,o2+k * 8+6,none⟩=some (.int .i64 y.gen):=by
    have:=s2 (k * 8+6) _ (by rw [flat_at (enc:=encFs) (k:=8) (fun _=>rfl) hy 6 (by decide)];rfl)
    rwa [← Nat.add_assoc] at this
   have d7:wr.cell? ⟨g2,o2+k * 8+7,none⟩=some (.int .i64 y.seen):=by
    have:=s2 (k * 8+7) _ (by rw [flat_at (enc:=encFs) (k:=8) (fun _=>rfl) hy 7 (by decide)];rfl)
    rwa [← Nat.add_assoc] at this
   have hlt':(k:Int) < (l1.length:Int):=Int.ofNat_lt.2 hlt
   have hltb:(k:Int) < (l2.length:Int):=by rw [← HLN.out];exact hlt'
   have hw2:wrap64 ((k:Int)+1)=(k:Int)+1:=by unfold wrap64;omega
   have hne:=fun w=>ne_fl x y w
   have hm:Tryz.prog.eqGuardType Tryz.prog.depth 36=false:=by kernel_rfl
   clear s1 s2
   by_cases hxy:x=y
   ·have HN:Hid (∀ n,EqRel l1 l2 F0 w0 R (.int .i64 ((k:Int)+1)) (wr.drewN n)):=Lib.hid fun n=>eq_step hx hy ht hxy (ho.drewN n)
    rw [show decide (x=y)=true from decide_eq_true hxy] at hne
    clear ho hx hy ht hk hlt hxy HA HB HLN
    go_wp2_with fail
    go_quiet (fail)
    go_wp2_with fail
    go_roundw
    case rel=>(try rw [hw2]);exact HN.out _
    case measure=>(try rw [hw2]);exact meas_lt hlt'
   ·have HD:Hid (decide (l1=l2)=false):=Lib.hid (by
     rw [decide_eq_false_iff_not]
     intro e;rw [e,hy] at hx;exact hxy (Option.some.inj hx).symm)
    have HN:=Lib.hid fun n=>ho.drewN n
    rw [show decide (x=y)=false from decide_eq_false hxy] at hne
    clear ho hx hy ht hk hlt hxy HA HB HLN
    go_wp2_with fail
    go_quiet (fail)
    go_wp2_with fail
    go_ret
    exact⟨by rw [HD.out];rfl,HN.out _⟩
  ·have hge:(l1.length:Int)≤(k:Int):=Int.ofNat_le.2 (Nat.le_of_not_lt hlt)
   have HD:Hid (decide (l1=l2)=true):=Lib.hid (by
    rw [decide_eq_true_eq]
    rw [List.take_of_length_le (Nat.le_of_not_lt hlt),List.take_of_length_le (by rw [← HLN.out];exact Nat.le_of_not_lt hlt)] at ht
    exact ht)
   have HN:=Lib.hid ho
   clear ho ht hk hlt HA HB HLN
   go_wp2_with fail
   go_ret
   exact⟨by rw [HD.out];rfl,HN.out⟩
end
end Go.Proofs.YtpmmiljakbojaaaGreat
