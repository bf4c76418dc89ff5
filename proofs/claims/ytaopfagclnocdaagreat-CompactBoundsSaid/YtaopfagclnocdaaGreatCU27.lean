/- Rows.CompactBoundsSaid -/
import Derived.Test.YtaopfagclnocdaaGreatCU15
namespace Go.Proofs.YtaopfagclnocdaaGreat
open Go.RowKit
set_option linter.unusedVariables false
set_option maxHeartbeats 64000000
set_option maxRecDepth 100000
attribute [-go_sem] run_neq_struct
section
variable {F0:List Nat} {w0 w:World} {R:List Asrt}
theorem o_qsamebk {l1 l2:List Bk} {A1 A2:Option Addr} {c1 c2:Nat} (h1:RowV F0 w0 R A1 l1.length 3 ((l1.map encB).flatten)) (h2:RowV F0 w0 R A2 l2.length 3 ((l2.map encB).flatten)) (hl:l1.length≤1000000) (h:In F0 w0 w R):Calls Tryz.prog 56 #[.slice A1 l1.length c1,.slice A2 l2.length c2] w fun e w'=>e=.returned (.bool (decide (l1=l2)))∧In F0 w0 w' R:=by
 by_cases hlen:l1.length=l2.length
 case neg=>
  have hd:decide (l1=l2)=false:=decide_eq_false (fun e=>hlen (by rw [e]))
  have q:((l1.length:Int) != (l2.length:Int))=true:=by rw [bne_iff_ne];omega
  have G:=Lib.hid h
  rw [hd]
  clear h h1 h2 hlen hd hl
  go_enter Tryz.func56,Tryz.ntmps56
  go_wp2_with fail
  go_ret
  exact⟨rfl,G.out⟩
 have HA:=Lib.hid h1
 have HB:=Lib.hid h2
 have HR:Hid (EqRel l1 l2 F0 w0 R (.int .i64 0) w):=Lib.hid ⟨0,Nat.zero_le _,rfl,rfl,h⟩
 have HLN:=Lib.hid hlen
 have q:((l1.length:Int) != (l2.length:Int))=false:=by simp [hlen]
 clear h h1 h2 hlen
 go_enter Tryz.func56,Tryz.ntmps56
 go_wp2_with fail
 go_loopw [13] (EqRel l1 l2 F0 w0 R) (fun k _=>l1.length - (intOf k).toNat)
 case atStart=>exact HR.out
 case round=>
  obtain⟨k,hk,rfl,ht,ho⟩:=hrel
  clear HR
  by_cases hlt:k < l1.length
  ·obtain⟨x,hx⟩:∃ x,l1[k]?=some x:=⟨l1[k],List.getElem?_eq_getElem hlt⟩
   obtain⟨y,hy⟩:∃ y,l2[k]?=some y:=⟨l2[k]'(by rw [← HLN.out];exact hlt),List.getElem?_eq_getElem _⟩
   obtain⟨g1,o1,rfl,s1⟩:=(HA.out wr ho).plain (by omega) (by decide)
   obtain⟨g2,o2,rfl,s2⟩:=(HB.out wr ho).plain (by rw [← HLN.out];omega) (by decide)
   have c0:wr.cell? ⟨g1,o1+k * 3,none⟩=some (.int .i64 x.id):=by
    have:=s1 (k * 3+0) _ (by rw [flat_at (enc:=encB) (k:=3) (fun _=>rfl) hx 0 (by decide)];rfl)
    rwa [← Nat.add_assoc] at this
   have c1:wr.cell? ⟨g1,o1+k * 3+1,none⟩=some (.int .u32 x.addr):=by
    have:=s1 (k * 3+1) _ (by rw [flat_at (enc:=encB) (k:=3) (fun _=>rfl) hx 1 (by decide)];rfl)
    rwa [← Nat.add_assoc] at this
   have c2:wr.cell? ⟨g1,o1+k * 3+2,none⟩=some (.int .i64 x.weight):=by
    have:=s1 (k * 3+2) _ (by rw [flat_at (enc:=encB) (k:=3) (fun _=>rfl) hx 2 (by decide)];rfl)
    rwa [← Nat.add_assoc] at this
   have d0:wr.cell? ⟨g2,o2+k * 3,none⟩=some (.int .i64 y.id):=by
    have:=s2 (k * 3+0) _ (by rw [flat_at (enc:=encB) (k:=3) (fun _=>rfl) hy 0 (by decide)];rfl)
    rwa [← Nat.add_assoc] at this
   have d1:wr.cell? ⟨g2,o2+k * 3+1,none⟩=some (.int .u32 y.addr):=by
    have:=s2 (k * 3+1) _ (by rw [flat_at (enc:=encB) (k:=3) (fun _=>rfl) hy 1 (by decide)];rfl)
    rwa [← Nat.add_assoc] at this
   have d2:wr.cell? ⟨g2,o2+k * 3+2,none⟩=some (.int .i64 y.weight):=by
    have:=s2 (k * 3+2) _ (by rw [flat_at (enc:=encB) (k:=3) (fun _=>rfl) hy 2 (by decide)];rfl)
    rwa [← Nat.add_assoc] at this
   have hlt':(k:Int) < (l1.length:Int):=Int.ofNat_lt.2 hlt
   have hltb:(k:Int) < (l2.length:Int):=by rw [← HLN.out];exact hlt'
   have hw2:wrap64 ((k:Int)+1)=(k:Int)+1:=by unfold wrap64;omega
   have hne:=fun w=>ne_bk x y w
   have hm:Tryz.prog.eqGuardType Tryz.prog.depth 108=false:=by kernel_rfl
   clear s1 s2
   by_cases hxy:x=y
   ·have HN:Hid (∀ n,EqRel l1 l2 F0 w0 R (.int .i64 ((k:Int)+1)) (wr.drewN n)):=Lib.hid fun n=>eq_step hx hy ht hxy (ho.drewN n)
    rw [show decide (x=y)=true from decide_eq_true hxy] at hne
    clear ho hx hy ht hk hlt hxy HA HB HLN
    go_wp2_with fail
    go_quiet (fail)
    go_wp2_with fail
    go_roundw
    case rel=>(try rw [hw2]);exact HN.out _
    case measure=>(try rw [hw2]);exact meas_lt hlt'
   ·have HD:Hid (decide (l1=l2)=false):=Lib.hid (by
     rw [decide_eq_false_iff_not]
     intro e;rw [e,hy] at hx;exact hxy (Option.some.inj hx).symm)
    have HN:=Lib.hid fun n=>ho.drewN n
    rw [show decide (x=y)=false from decide_eq_false hxy] at hne
    clear ho hx hy ht hk hlt hxy HA HB HLN
    go_wp2_with fail
    go_quiet (fail)
    go_wp2_with fail
    go_ret
    exact⟨by rw [HD.out];rfl,HN.out _⟩
  ·have hge:(l1.length:Int)≤(k:Int):=Int.ofNat_le.2 (Nat.le_of_not_lt hlt)
   have HD:Hid (decide (l1=l2)=true):=Lib.hid (by
    rw [decide_eq_true_eq]
    rw [List.take_of_length_le (Nat.le_of_not_lt hlt),List.take_of_length_le (by rw [← HLN.out];exact Nat.le_of_not_lt hlt)] at ht
    exact ht)
   have HN:=Lib.hid ho
   clear ho ht hk hlt HA HB HLN
   go_wp2_with fail
   go_ret
   exact⟨by rw [HD.out];rfl,HN.out⟩
theorem o_qsamedr {l1 l2:List (Int×Int)} {A1 A2:Option Addr} {c1 c2:Nat} (h1:RowV F0 w0 R A1 l1.length 2 ((l1.map encDr).flatten)) (h2:RowV F0 w0 R A2 l2.length 2 ((l2.map encDr).flatten)) (hl:l1.length≤1000000) (h:In F0 w0 w R):Calls Tryz.prog 57 #[.slice A1 l1.length c1,.slice A2 l2.length c2] w fun e w'=>e=.returned (.bool (decide (l1=l2)))∧In F0 w0 w' R:=by
 by_cases hlen:l1.length=l2.length
 case neg=>
  have hd:decide (l1=l2)=false:=decide_eq_false (fun e=>hlen (by rw [e]))
  have q:((l1.length:Int) != (l2.length:Int))=true:=by rw [bne_iff_ne];omega
  have G:=Lib.hid h
  rw [hd]
  clear h h1 h2 hlen hd hl
  go_enter Tryz.func57,Tryz.ntmps57
  go_wp2_with fail
  go_ret
  exact⟨rfl,G.out⟩
 have HA:=Lib.hid h1
 have HB:=Lib.hid h2
 have HR:Hid (EqRel l1 l2 F0 w0 R (.int .i64 0) w):=Lib.hid ⟨0,Nat.zero_le _,rfl,rfl,h⟩
 have HLN:=Lib.hid hlen
 have q:((l1.length:Int) != (l2.length:Int))=false:=by simp [hlen]
 clear h h1 h2 hlen
 go_enter Tryz.func57,Tryz.ntmps57
 go_wp2_with fail
 go_loopw [13] (EqRel l1 l2 F0 w0 R) (fun k _=>l1.length - (intOf k).toNat)
 case atStart=>exact HR.out
 case round=>
  obtain⟨k,hk,rfl,ht,ho⟩:=hrel
  clear HR
  by_cases hlt:k < l1.length
  ·obtain⟨x,hx⟩:∃ x,l1[k]?=some x:=⟨l1[k],List.getElem?_eq_getElem hlt⟩
   obtain⟨y,hy⟩:∃ y,l2[k]?=some y:=⟨l2[k]'(by rw [← HLN.out];exact hlt),List.getElem?_eq_getElem _⟩
   obtain⟨g1,o1,rfl,s1⟩:=(HA.out wr ho).plain (by omega) (by decide)
   obtain⟨g2,o2,rfl,s2⟩:=(HB.out wr ho).plain (by rw [← HLN.out];omega) (by decide)
   have c0:wr.cell? ⟨g1,o1+k * 2,none⟩=some (.int .i64 x.1):=by
    have:=s1 (k * 2+0) _ (by rw [flat_at (enc:=encDr) (k:=2) (fun _=>rfl) hx 0 (by decide)];rfl)
    rwa [← Nat.add_assoc] at this
   have c1:wr.cell? ⟨g1,o1+k * 2+1,none⟩=some (.int .i64 x.2):=by
    have:=s1 (k * 2+1) _ (by rw [flat_at (enc:=encDr) (k:=2) (fun _=>rfl) hx 1 (by decide)];rfl)
    rwa [← Nat.add_assoc] at this
   have d0:wr.cell? ⟨g2,o2+k * 2,none⟩=some (.int .i64 y.1):=by
    have:=s2 (k * 2+0) _ (by rw [flat_at (enc:=encDr) (k:=2) (fun _=>rfl) hy 0 (by decide)];rfl)
    rwa [← Nat.add_assoc] at this
   have d1:wr.cell? ⟨g2,o2+k * 2+1,none⟩=some (.int .i64 y.2):=by
    have:=s2 (k * 2+1) _ (by rw [flat_at (enc:=encDr) (k:=2) (fun _=>rfl) hy 1 (by decide)];rfl)
    rwa [← Nat.add_assoc] at this
   have hlt':(k:Int) < (l1.length:Int):=Int.ofNat_lt.2 hlt
   have hltb:(k:Int) < (l2.length:Int):=by rw [← HLN.out];exact hlt'
   have hw2:wrap64 ((k:Int)+1)=(k:Int)+1:=by unfold wrap64;omega
   have hne:=fun w=>ne_dr x y w
   have hm:Tryz.prog.eqGuardType Tryz.prog.depth 128=false:=by kernel_rfl
   clear s1 s2
   by_cases hxy:x=y
   ·have HN:Hid (∀ n,EqRel l1 l2 F0 w0 R (.int .i64 ((k:Int)+1)) (wr.drewN n)):=Lib.hid fun n=>eq_step hx hy ht hxy (ho.drewN n)
    rw [show decide (x=y)=true from decide_eq_true hxy] at hne
    clear ho hx hy ht hk hlt hxy HA HB HLN
    go_wp2_with fail
    go_quiet (fail)
    go_wp2_with fail
    go_roundw
    case rel=>(try rw [hw2]);exact HN.out _
    case measure=>(try rw [hw2]);exact meas_lt hlt'
   ·have HD:Hid (decide (l1=l2)=false):=Lib.hid (by
     rw [decide_eq_false_iff_not]
     intro e;rw [e,hy] at hx;exact hxy (Option.some.inj hx).symm)
    have HN:=Lib.hid fun n=>ho.drewN n
    rw [show decide (x=y)=false from decide_eq_false hxy] at hne
    clear ho hx hy ht hk hlt hxy HA HB HLN
    go_wp2_with fail
    go_quiet (fail)
    go_wp2_with fail
    go_ret
    exact⟨by rw [HD.out];rfl,HN.out _⟩
  ·have hge:(l1.length:Int)≤(k:Int):=Int.ofNat_le.2 (Nat.le_of_not_lt hlt)
   have HD:Hid (decide (l1=l2)=true):=Lib.hid (by
    rw [decide_eq_true_eq]
    rw [List.take_of_length_le (Nat.le_of_not_lt hlt),List.take_of_length_le (by rw [← HLN.out];exact Nat.le_of_not_lt hlt)] at ht
    exact ht)
   have HN:=Lib.hid ho
   clear ho ht hk hlt HA HB HLN
   go_wp2_with fail
   go_ret
   exact⟨by rw [HD.out];rfl,HN.out⟩
theorem o_qsamefl {l1 l2:List Fl} {A1 A2:Option Addr} {c1 c2:Nat} (h1:RowV F0 w0 R A1 l1.length 8 ((l1.map encFs).flatten)) (h2:RowV F0 w0 R A2 l2.length 8 ((l2.map encFs).flatten)) (hl:l1.length≤1000000) (h:In F0 w0 w R):Calls Tryz.prog 58 #[.slice A1 l1.length c1,.slice A2 l2.length c2] w fun e w'=>e=.returned (.bool (decide (l1=l2)))∧In F0 w0 w' R:=by
 by_cases hlen:l1.length=l2.length
 case neg=>
  have hd:decide (l1=l2)=false:=decide_eq_false (fun e=>hlen (by rw [e]))
  have q:((l1.length:Int) != (l2.length:Int))=true:=by rw [bne_iff_ne];omega
  have G:=Lib.hid h
  rw [hd]
  clear h h1 h2 hlen hd hl
  go_enter Tryz.func58,Tryz.ntmps58
  go_wp2_with fail
  go_ret
  exact⟨rfl,G.out⟩
 have HA:=Lib.hid h1
 have HB:=Lib.hid h2
 have HR:Hid (EqRel l1 l2 F0 w0 R (.int .i64 0) w):=Lib.hid ⟨0,Nat.zero_le _,rfl,rfl,h⟩
 have HLN:=Lib.hid hlen
 have q:((l1.length:Int) != (l2.length:Int))=false:=by simp [hlen]
 clear h h1 h2 hlen
 go_enter Tryz.func58,Tryz.ntmps58
 go_wp2_with fail
 go_loopw [13] (EqRel l1 l2 F0 w0 R) (fun k _=>l1.length - (intOf k).toNat)
 case atStart=>exact HR.out
 case round=>
  obtain⟨k,hk,rfl,ht,ho⟩:=hrel
  clear HR
  by_cases hlt:k < l1.length
  ·obtain⟨x,hx⟩:∃ x,l1[k]?=some x:=⟨l1[k],List.getElem?_eq_getElem hlt⟩
   obtain⟨y,hy⟩:∃ y,l2[k]?=some y:=⟨l2[k]'(by rw [← HLN.out];exact hlt),List.getElem?_eq_getElem _⟩
   obtain⟨g1,o1,rfl,s1⟩:=(HA.out wr ho).plain (by omega) (by decide)
   obtain⟨g2,o2,rfl,s2⟩:=(HB.out wr ho).plain (by rw [← HLN.out];omega) (by decide)
   have c0:wr.cell? ⟨g1,o1+k * 8,none⟩=some (.int .u32 x.t.src):=by
    have:=s1 (k * 8+0) _ (by rw [flat_at (enc:=encFs) (k:=8) (fun _=>rfl) hx 0 (by decide)];rfl)
    rwa [← Nat.add_assoc] at this
   have c1:wr.cell? ⟨g1,o1+k * 8+1,none⟩=some (.int .u32 x.t.dst):=by
    have:=s1 (k * 8+1) _ (by rw [flat_at (enc:=encFs) (k:=8) (fun _=>rfl) hx 1 (by decide)];rfl)
    rwa [← Nat.add_assoc] at this
   have c2:wr.cell? ⟨g1,o1+k * 8+2,none⟩=some (.int .i64 x.t.proto):=by
    have:=s1 (k * 8+2) _ (by rw [flat_at (enc:=encFs) (k:=8) (fun _=>rfl) hx 2 (by decide)];rfl)
    rwa [← Nat.add_assoc] at this
   have c3:wr.cell? ⟨g1,o1+k * 8+3,none⟩=some (.int .i64 x.t.sport):=by
    have:=s1 (k * 8+3) _ (by rw [flat_at (enc:=encFs) (k:=8) (fun _=>rfl) hx 3 (by decide)];rfl)
    rwa [← Nat.add_assoc] at this
   have c4:wr.cell? ⟨g1,o1+k * 8+4,none⟩=some (.int .i64 x.t.dport):=by
    have:=s1 (k * 8+4) _ (by rw [flat_at (enc:=encFs) (k:=8) (fun _=>rfl) hx 4 (by decide)];rfl)
    rwa [← Nat.add_assoc] at this
   have c5:wr.cell? ⟨g1,o1+k * 8+5,none⟩=some (.int .i64 x.bk):=by
    have:=s1 (k * 8+5) _ (by rw [flat_at (enc:=encFs) (k:=8) (fun _=>rfl) hx 5 (by decide)];rfl)
    rwa [← Nat.add_assoc] at this
   have c6:wr.cell? ⟨g1,o1+k * 8+6,none⟩=some (.int .i64 x.gen):=by
    have:=s1 (k * 8+6) _ (by rw [flat_at (enc:=encFs) (k:=8) (fun _=>rfl) hx 6 (by decide)];rfl)
    rwa [← Nat.add_assoc] at this
   have c7:wr.cell? ⟨g1,o1+k * 8+7,none⟩=some (.int .i64 x.seen):=by
    have:=s1 (k * 8+7) _ (by rw [flat_at (enc:=encFs) (k:=8) (fun _=>rfl) hx 7 (by decide)];rfl)
    rwa [← Nat.add_assoc] at this
   have d0:wr.cell? ⟨g2,o2+k * 8,none⟩=some (.int .u32 y.t.src):=by
    have:=s2 (k * 8+0) _ (by rw [flat_at (enc:=encFs) (k:=8) (fun _=>rfl) hy 0 (by decide)];rfl)
    rwa [← Nat.add_assoc] at this
   have d1:wr.cell? ⟨g2,o2+k * 8+1,none⟩=some (.int .u32 y.t.dst):=by
    have:=s2 (k * 8+1) _ (by rw [flat_at (enc:=encFs) (k:=8) (fun _=>rfl) hy 1 (by decide)];rfl)
    rwa [← Nat.add_assoc] at this
   have d2:wr.cell? ⟨g2,o2+k * 8+2,none⟩=some (.int .i64 y.t.proto):=by
    have:=s2 (k * 8+2) _ (by rw [flat_at (enc:=encFs) (k:=8) (fun _=>rfl) hy 2 (by decide)];rfl)
    rwa [← Nat.add_assoc] at this
   have d3:wr.cell? ⟨g2,o2+k * 8+3,none⟩=some (.int .i64 y.t.sport):=by
    have:=s2 (k * 8+3) _ (by rw [flat_at (enc:=encFs) (k:=8) (fun _=>rfl) hy 3 (by decide)];rfl)
    rwa [← Nat.add_assoc] at this
   have d4:wr.cell? ⟨g2,o2+k * 8+4,none⟩=some (.int .i64 y.t.dport):=by
    have:=s2 (k * 8+4) _ (by rw [flat_at (enc:=encFs) (k:=8) (fun _=>rfl) hy 4 (by decide)];rfl)
    rwa [← Nat.add_assoc] at this
   have d5:wr.cell? ⟨g2,o2+k * 8+5,none⟩=some (.int .i64 y.bk):=by
    have:=s2 (k * 8+5) _ (by rw [flat_at (enc:=encFs) (k:=8) (fun _=>rfl) hy 5 (by decide)];rfl)
    rwa [← Nat.add_assoc] at this
   have d6:wr.cell? ⟨g2,o2+k * 8+6,none⟩=some (.int .i64 y.gen):=by
    have:=s2 (k * 8+6) _ (by rw [flat_at (enc:=encFs) (k:=8) (fun _=>rfl) hy 6 (by decide)];rfl)
    rwa [← Nat.add_assoc] at this
   have d7:wr.cell? ⟨g2,o2+k * 8+7,none⟩=some (.int .i64 y.seen):=by
    have:=s2 (k * 8+7) _ (by rw [flat_at (enc:=encFs) (k:=8) (fun _=>rfl) hy 7 (by decide)];rfl)
    rwa [← Nat.add_assoc] at this
   have hlt':(k:Int) < (l1.length:Int):=Int.ofNat_lt.2 hlt
   have hltb:(k:Int) < (l2.length:Int):=by rw [← HLN.out];exact hlt'
   have hw2:wrap64 ((k:Int)+1)=(k:Int)+1:=by unfold wrap64;omega
   have hne:=fun w=>ne_fl x y w
   have hm:Tryz.prog.eqGuardType Tryz.prog.depth 43=false:=by kernel_rfl
   clear s1 s2
   by_cases hxy:x=y
   ·have HN:Hid (∀ n,EqRel l1 l2 F0 w0 R (.int .i64 ((k:Int)+1)) (wr.drewN n)):=Lib.hid fun n=>eq_step hx hy ht hxy (ho.drewN n)
    rw [show decide (x=y)=true from decide_eq_true hxy] at hne
    clear ho hx hy ht hk hlt hxy HA HB HLN
    go_wp2_with fail
    go_quiet (fail)
    go_wp2_with fail
    go_roundw
    case rel=>(try rw [hw2]);exact HN.out _
    case measure=>(try rw [hw2]);exact meas_lt hlt'
   ·have HD:Hid (decide (l1=l2)=false):=Lib.hid (by
     rw [decide_eq_false_iff_not]
     intro e;rw [e,hy] at hx;exact hxy (Option.some.inj hx).symm)
    have HN:=Lib.hid fun n=>ho.drewN n
    rw [show decide (x=y)=false from decide_eq_false hxy] at hne
    clear ho hx hy ht hk hlt hxy HA HB HLN
    go_wp2_with fail
    go_quiet (fail)
    go_wp2_with fail
    go_ret
    exact⟨by rw [HD.out];rfl,HN.out _⟩
  ·have hge:(l1.length:Int)≤(k:Int):=Int.ofNat_le.2 (Nat.le_of_not_lt hlt)
   have HD:Hid (decide (l1=l2)=true):=Lib.hid (by
    rw [decide_eq_true_eq]
    rw [List.take_of_length_le (Nat.le_of_not_lt hlt),List.take_of_length_le (by rw [← HLN.out];exact Nat.le_of_not_lt hlt)] at ht
    exact ht)
   have HN:=Lib.hid ho
   clear ho ht hk hlt HA HB HLN
   go_wp2_with fail
   go_ret
   exact⟨by rw [HD.out];rfl,HN.out⟩
def sameSt (s t:StD):Bool:=decide (s.gen=t.gen) && (decide (s.bks=t.bks) && (decide (s.drs=t.drs) && decide (s.fls=t.fls)))
theorem sameSt_eq (s t:StD):sameSt s t=decide (s=t):=by
 obtain⟨a1,a2,a3,a4⟩:=s
 obtain⟨b1,b2,b3,b4⟩:=t
 unfold sameSt
 rw [Bool.eq_iff_iff]
 simp
structure RowsV (F0:List Nat) (w0:World) (R:List Asrt) (s:StD) (b d f:Option Addr):Prop where
 bk:RowV F0 w0 R b s.bks.length 3 ((s.bks.map encB).flatten)
 dr:RowV F0 w0 R d s.drs.length 2 ((s.drs.map encDr).flatten)
 fl:RowV F0 w0 R f s.fls.length 8 ((s.fls.map encFs).flatten)
abbrev stAgg (s:StD) (b:Option Addr) (bc:Nat) (d:Option Addr) (dc:Nat) (f:Option Addr) (fc:Nat):Array Value:=#[.int .i64 s.gen,.slice b s.bks.length bc,.slice d s.drs.length dc,.slice f s.fls.length fc]
theorem o_qsamest {s t:StD} {b1 d1 f1 b2 d2 f2:Option Addr} {bc1 dc1 fc1 bc2 dc2 fc2:Nat} (h1:RowsV F0 w0 R s b1 d1 f1) (h2:RowsV F0 w0 R t b2 d2 f2) (l1:s.bks.length≤1000000) (l2:s.drs.length≤1000000) (l3:s.fls.length≤1000000) (h:In F0 w0 w R) :
  Calls Tryz.prog 14 #[.agg (stAgg s b1 bc1 d1 dc1 f1 fc1),.agg (stAgg t b2 bc2 d2 dc2 f2 fc2)] w fun e w'=>e=.returned (.bool (decide (s=t)))∧In F0 w0 w' R:=by
 have hB:In F0 w0 ((w.alloc (.cells (stAgg s b1 bc1 d1 dc1 f1 fc1) 36)).alloc (.cells (stAgg t b2 bc2 d2 dc2 f2 fc2) 36)) (Cells (w.heap.size+1) (stAgg t b2 bc2 d2 dc2 f2 fc2) 36::Cells w.heap.size (stAgg s b1 bc1 d1 dc1 f1 fc1) 36::R):=by
  have e:(w.alloc (.cells (stAgg s b1 bc1 d1 dc1 f1 fc1) 36)).heap.size=w.heap.size+1:=by simp
  rw [← e]
  exact (h.cells (stAgg s b1 bc1 d1 dc1 f1 fc1) 36).cells (stAgg t b2 bc2 d2 dc2 f2 fc2) 36
 have HO:=Lib.hid hB
 have KB:Hid (∀ w' y x,In F0 w0 w' (Cells y (stAgg t b2 bc2 d2 dc2 f2 fc2) 36::Cells x (stAgg s b1 bc1 d1 dc1 f1 fc1) 36::R)→Calls Tryz.prog 56 #[.slice b1 s.bks.length bc1,.slice b2 t.bks.length bc2] w' fun e w''=>e=.returned (.bool (decide (s.bks=t.bks)))∧In F0 w0 w'' (Cells y (stAgg t b2 bc2 d2 dc2 f2 fc2) 36::Cells x (stAgg s b1 bc1 d1 dc1 f1 fc1) 36::R)):=Lib.hid fun w' y x h'=>o_qsamebk (fun W hW=>h1.bk W hW.drop.drop) (fun W hW=>h2.bk W hW.drop.drop) l1 h'
 have KD:Hid (∀ w' y x,In F0 w0 w' (Cells y (stAgg t b2 bc2 d2 dc2 f2 fc2) 36::Cells x (stAgg s b1 bc1 d1 dc1 f1 fc1) 36::R)→Calls Tryz.prog 57 #[.slice d1 s.drs.length dc1,.slice d2 t.drs.length dc2] w' fun e w''=>e=.returned (.bool (decide (s.drs=t.drs)))∧In F0 w0 w'' (Cells y (stAgg t b2 bc2 d2 dc2 f2 fc2) 36::Cells x (stAgg s b1 bc1 d1 dc1 f1 fc1) 36::R)):=Lib.hid fun w' y x h'=>o_qsamedr (fun W hW=>h1.dr W hW.drop.drop) (fun W hW=>h2.dr W hW.drop.drop) l2 h'
 have KF:Hid (∀ w' y x,In F0 w0 w' (Cells y (stAgg t b2 bc2 d2 dc2 f2 fc2) 36::Cells x (stAgg s b1 bc1 d1 dc1 f1 fc1) 36::R)→Calls Tryz.prog 58 #[.slice f1 s.fls.length fc1,.slice f2 t.fls.length fc2] w' fun e w''=>e=.returned (.bool (decide (s.fls=t.fls)))∧In F0 w0 w'' (Cells y (stAgg t b2 bc2 d2 dc2 f2 fc2) 36::Cells x (stAgg s b1 bc1 d1 dc1 f1 fc1) 36::R)):=Lib.hid fun w' y x h'=>o_qsamefl (fun W hW=>h1.fl W hW.drop.drop) (fun W hW=>h2.fl W hW.drop.drop) l3 h'
 have HC:Hid (∀ W y x,In F0 w0 W (Cells y (stAgg t b2 bc2 d2 dc2 f2 fc2) 36::Cells x (stAgg s b1 bc1 d1 dc1 f1 fc1) 36::R)→(W.cell? ⟨x,1,none⟩=some (.slice b1 s.bks.length bc1)∧W.cell? ⟨x,2,none⟩=some (.slice d1 s.drs.length dc1)∧W.cell? ⟨x,3,none⟩=some (.slice f1 s.fls.length fc1))∧W.cell? ⟨y,1,none⟩=some (.slice b2 t.bks.length bc2)∧W.cell? ⟨y,2,none⟩=some (.slice d2 t.drs.length dc2)∧W.cell? ⟨y,3,none⟩=some (.slice f2 t.fls.length fc2)):=Lib.hid fun W y x h'=>⟨⟨cell_of (h'.block 1 rfl) rfl,cell_of (h'.block 1 rfl) rfl,cell_of (h'.block 1 rfl) rfl⟩,cell_of (h'.block 0 rfl) rfl,cell_of (h'.block 0 rfl) rfl,cell_of (h'.block 0 rfl) rfl⟩
 rw [← sameSt_eq]
 unfold sameSt
 clear h h1 h2 l1 l2 l3 hB
 by_cases hg:s.gen=t.gen
 case neg=>
  rw [decide_eq_false hg,Bool.false_and]
  have q:(s.gen == t.gen)=false:=by simpa using hg
  clear hg KB KD KF HC
  go_enter Tryz.func14,Tryz.ntmps14
  go_wp2_with fail
  go_ret
  exact⟨rfl,HO.out.drop.drop⟩
 rw [decide_eq_true hg,Bool.true_and]
 have q:(s.gen == t.gen)=true:=by simpa using hg
 clear hg
 cases hb:decide (s.bks=t.bks) with
 | false=>
  rw [hb] at KB
  rw [Bool.false_and]
  clear hb KD KF HC
  go_enter Tryz.func14,Tryz.ntmps14
  go_wp2_with fail
  refine (KB.out _ _ _ HO.out).mono ?_
  rintro e w1 ⟨rfl,ho⟩
  have HI:=Lib.hid ho
  clear ho
  go_wp2_with fail
  go_ret
  exact⟨rfl,HI.out.drop.drop⟩
 | true=>
  rw [hb] at KB
  rw [Bool.true_and]
  clear hb
  cases hd:decide (s.drs=t.drs) with
  | false=>
   rw [hd] at KD
   rw [Bool.false_and]
   clear hd KF
   go_enter Tryz.func14,Tryz.ntmps14
   go_wp2_with fail
   refine (KB.out _ _ _ HO.out).mono ?_
   rintro e w1 ⟨rfl,ho⟩
   have HI:=Lib.hid ho
   obtain⟨⟨x1,x2,x3⟩,y1,y2,y3⟩:=HC.out _ _ _ ho
   clear ho HC
   go_wp2_with fail
   refine (KD.out _ _ _ HI.out).mono ?_
   rintro e w2 ⟨rfl,ho⟩
   have HI2:=Lib.hid ho
   clear ho x1 x2 x3 y1 y2 y3
   go_wp2_with fail
   go_ret
   exact⟨rfl,HI2.out.drop.drop⟩
  | true=>
   rw [hd] at KD
   rw [Bool.true_and]
   clear hd
   generalize decide (s.fls=t.fls)=qf at *
   go_enter Tryz.func14,Tryz.ntmps14
   go_wp2_with fail
   refine (KB.out _ _ _ HO.out).mono ?_
   rintro e w1 ⟨rfl,ho⟩
   have HI:=Lib.hid ho
   obtain⟨⟨x1,x2,x3⟩,y1,y2,y3⟩:=HC.out _ _ _ ho
   clear ho
   go_wp2_with fail
   refine (KD.out _ _ _ HI.out).mono ?_
   rintro e w2 ⟨rfl,ho⟩
   have HI2:=Lib.hid ho
   clear x1 x2 x3 y1 y2 y3
   obtain⟨⟨x1,x2,x3⟩,y1,y2,y3⟩:=HC.out _ _ _ ho
   clear ho HC
   go_wp2_with fail
   refine (KF.out _ _ _ HI2.out).mono ?_
   rintro e w3 ⟨rfl,ho⟩
   have HI3:=Lib.hid ho
   clear ho x1 x2 x3 y1 y2 y3
   cases qf
   all_goals
    go_wp2_with fail
    go_ret
    exact⟨rfl,HI3.out.drop.drop⟩
end
end Go.Proofs.YtaopfagclnocdaaGreat
