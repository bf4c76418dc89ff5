/- Rows.CompactBoundsSaid -/
import Derived.Test.YtaopfagclnocdaaGreatCU4
import Derived.Test.YtaopfagclnocdaaGreatCU2
import Derived.Deep.MidRow
import Derived.Laws.Rows
import Derived.Deep.RegionHeld3
import Derived.StillTailTactics
import Derived.Lib.SliceRun
namespace Go.Proofs.YtaopfagclnocdaaGreat
open Go.RowKit
set_option linter.unusedVariables false
set_option maxHeartbeats 64000000
set_option maxRecDepth 100000
def inB (x m:Int):Bool:=decide (0≤x∧x≤m)
theorem rc_in (x m:Int) (w:World):Calls Tryz.prog 94 #[.int .i64 x,.int .i64 m] w fun e w'=>e=.returned (.bool (inB x m))∧w'=w:=by
 by_cases h0:0≤x
 ·by_cases h1:x≤m
  ·have e:inB x m=true:=decide_eq_true ⟨h0,h1⟩
   rw [e];clear e
   go_enter Tryz.func94,Tryz.ntmps94
   go_wp2_with fail
   go_ret
   exact⟨rfl,rfl⟩
  ·have e:inB x m=false:=decide_eq_false (fun h=>h1 h.2)
   have q:decide (x≤m)=false:=decide_eq_false h1
   rw [e];clear e h1
   go_enter Tryz.func94,Tryz.ntmps94
   go_wp2_with fail
   go_ret
   exact⟨rfl,rfl⟩
 ·have e:inB x m=false:=decide_eq_false (fun h=>h0 h.1)
  have q:decide (0≤x)=false:=decide_eq_false h0
  rw [e];clear e h0
  go_enter Tryz.func94,Tryz.ntmps94
  go_wp2_with fail
  go_ret
  exact⟨rfl,rfl⟩
theorem rc_time (x:Int) (w:World):Calls Tryz.prog 95 #[.int .i64 x] w fun e w'=>e=.returned (.bool (inB x 1099511627776))∧w'=w:=by
 by_cases h0:0≤x
 ·by_cases h1:x≤1099511627776
  ·have e:inB x 1099511627776=true:=decide_eq_true ⟨h0,h1⟩
   rw [e];clear e
   go_enter Tryz.func95,Tryz.ntmps95
   go_wp2_with fail
   go_ret
   exact⟨rfl,rfl⟩
  ·have e:inB x 1099511627776=false:=decide_eq_false (fun h=>h1 h.2)
   have q:decide (x≤1099511627776)=false:=decide_eq_false h1
   rw [e];clear e h1
   go_enter Tryz.func95,Tryz.ntmps95
   go_wp2_with fail
   go_ret
   exact⟨rfl,rfl⟩
 ·have e:inB x 1099511627776=false:=decide_eq_false (fun h=>h0 h.1)
  have q:decide (0≤x)=false:=decide_eq_false h0
  rw [e];clear e h0
  go_enter Tryz.func95,Tryz.ntmps95
  go_wp2_with fail
  go_ret
  exact⟨rfl,rfl⟩
theorem rc_version (x:Int) (w:World):Calls Tryz.prog 103 #[.int .i64 x] w fun e w'=>e=.returned (.bool (verOk x))∧w'=w:=by
 by_cases h0:1≤x
 ·by_cases h1:x≤3
  ·have e:verOk x=true:=decide_eq_true ⟨h0,h1⟩
   rw [e];clear e
   go_enter Tryz.func103,Tryz.ntmps103
   go_wp2_with fail
   go_ret
   exact⟨rfl,rfl⟩
  ·have e:verOk x=false:=decide_eq_false (fun h=>h1 h.2)
   have q:decide (x≤3)=false:=decide_eq_false h1
   rw [e];clear e h1
   go_enter Tryz.func103,Tryz.ntmps103
   go_wp2_with fail
   go_ret
   exact⟨rfl,rfl⟩
 ·have e:verOk x=false:=decide_eq_false (fun h=>h0 h.1)
  have q:decide (1≤x)=false:=decide_eq_false h0
  rw [e];clear e h0
  go_enter Tryz.func103,Tryz.ntmps103
  go_wp2_with fail
  go_ret
  exact⟨rfl,rfl⟩
theorem mayBk_eq (b:Bk):mayBk b=(inB b.id 65535 && decide (1≤b.weight∧b.weight≤10)):=rfl
section
variable {F0:List Nat} {w0 w:World} {R:List Asrt}
theorem o_rcbk (b:Bk) (h:In F0 w0 w R):Calls Tryz.prog 98 #[.agg (encB b).toArray] w fun e w'=>e=.returned (.bool (mayBk b))∧In F0 w0 w' R:=by
 have G:=Lib.hid ((h.cells (encB b).toArray 108).drop)
 have K:=Lib.hid (rc_in b.id 65535)
 rw [mayBk_eq]
 obtain⟨id,addr,wt⟩:=b
 simp only at K ⊢
 clear h
 cases hi:inB id 65535 with
 | false=>
  rw [hi] at K;clear hi
  go_enter Tryz.func98,Tryz.ntmps98
  go_wp2_with fail
  refine (K.out _).mono ?_
  rintro e w1 ⟨rfl,rfl⟩
  clear K
  go_wp2_with fail
  go_ret
  exact⟨rfl,G.out⟩
 | true=>
  rw [hi] at K;clear hi
  by_cases h1:1≤wt
  ·by_cases h2:wt≤10
   ·have e:(true && decide (1≤wt∧wt≤10))=true:=by simp [h1,h2]
    rw [e];clear e
    go_enter Tryz.func98,Tryz.ntmps98
    go_wp2_with fail
    refine (K.out _).mono ?_
    rintro e w1 ⟨rfl,rfl⟩
    clear K
    go_wp2_with fail
    go_ret
    exact⟨rfl,G.out⟩
   ·have e:(true && decide (1≤wt∧wt≤10))=false:=by simp [h1,h2]
    have q:decide (wt≤10)=false:=decide_eq_false h2
    rw [e];clear e h2
    go_enter Tryz.func98,Tryz.ntmps98
    go_wp2_with fail
    refine (K.out _).mono ?_
    rintro e w1 ⟨rfl,rfl⟩
    clear K
    go_wp2_with fail
    go_ret
    exact⟨rfl,G.out⟩
  ·have e:(true && decide (1≤wt∧wt≤10))=false:=by simp [h1]
   have q:decide (1≤wt)=false:=decide_eq_false h1
   rw [e];clear e h1
   go_enter Tryz.func98,Tryz.ntmps98
   go_wp2_with fail
   refine (K.out _).mono ?_
   rintro e w1 ⟨rfl,rfl⟩
   clear K
   go_wp2_with fail
   go_ret
   exact⟨rfl,G.out⟩
theorem o_rcmay1 (b:Bk) (h:In F0 w0 w R):Calls Tryz.prog 97 #[.agg (encB b).toArray] w fun e w'=>e=.returned (.bool (!mayBk b))∧In F0 w0 w' R:=by
 have K:=Lib.hid (o_rcbk b ((h.cells (encB b).toArray 108).drop))
 obtain⟨id,addr,wt⟩:=b
 clear h
 go_enter Tryz.func97,Tryz.ntmps97
 go_wp2_with fail
 refine K.out.mono ?_
 rintro e w1 ⟨rfl,g⟩
 have G:=Lib.hid g
 clear g K
 go_wp2_with fail
 go_ret
 exact⟨rfl,G.out⟩
theorem Src.plain {w:World} {A:Option Addr} {m k:Nat} {news:List Value} (h:Src w A m k news) (h0:0 < m) (hk:0 < k):∃ g o,A=some ⟨g,o,none⟩∧∀ j u,news[j]?=some u→w.cell? ⟨g,o+j,none⟩=some u:=by
 obtain⟨ad,e,hc⟩:=h.at' h0
 have hl:0 < news.length:=by rw [h.len];exact Nat.mul_pos h0 hk
 have c0:=hc 0 _ (List.getElem?_eq_getElem hl)
 have e2:=addr_none c0
 refine⟨ad.block,ad.off,by rw [e];exact congrArg some e2,fun j u hu=>?_⟩
 have:=hc j u hu
 rw [e2,add_plain] at this
 exact this
def BksAt (F0:List Nat) (w0:World) (R:List Asrt) (A:Option Addr) (l:List Bk):Prop:=∀ w',In F0 w0 w' R→Src w' A l.length 3 (bkV l)
theorem BksAt.cell {A:Option Addr} {l:List Bk} (hs:BksAt F0 w0 R A l) (h:In F0 w0 w R) {k:Nat} {b:Bk} (hb:l[k]?=some b):∃ g o,A=some ⟨g,o,none⟩∧w.cell? ⟨g,o+k * 3,none⟩=some (.int .i64 b.id)∧w.cell? ⟨g,o+k * 3+1,none⟩=some (.int .u32 b.addr)∧w.cell? ⟨g,o+k * 3+2,none⟩=some (.int .i64 b.weight):=by
 have hk:=(List.getElem?_eq_some_iff.1 hb).1
 obtain⟨g,o,e,hc⟩:=(hs w h).plain (by omega) (by decide)
 obtain⟨b0,b1,b2⟩:=bkV_at hb
 exact⟨g,o,e,hc _ _ b0,hc _ _ b1,hc _ _ b2⟩
def IdxRel (l:List Bk) (F0:List Nat) (w0:World) (R:List Asrt) (i:Value) (wr:World):Prop:=∃ k:Nat,k≤l.length∧i=.int .i64 k∧(∀ b∈l.take k,mayBk b=true)∧In F0 w0 wr R
def IdxPost (l:List Bk) (F0:List Nat) (w0:World) (R:List Asrt) (e:Ending) (w':World):Prop:=∃ z:Int,e=.returned (.int .i64 z)∧decide (0≤z)=l.any (fun b=>!mayBk b)∧In F0 w0 w' R
theorem idx_step {l:List Bk} {k:Nat} {b:Bk} (hb:l[k]?=some b) (ha:∀ b∈l.take k,mayBk b=true) (h:mayBk b=true) (hi:In F0 w0 w R):IdxRel l F0 w0 R (.int .i64 ((k:Int)+1)) w:=by
 refine⟨k+1,(List.getElem?_eq_some_iff.1 hb).1,by rw [Int.natCast_add];rfl,fun x hx=>?_,hi⟩
 rw [List.take_add_one,hb] at hx
 rcases List.mem_append.1 hx with hx | hx
 ·exact ha x hx
 ·simp at hx;subst hx;exact h
theorem o_idxbk {l:List Bk} {A:Option Addr} {c:Nat} (hs:BksAt F0 w0 R A l) (hl:l.length≤1000000000) (h:In F0 w0 w R):Calls Tryz.prog 170 #[.slice A l.length c,.func (.func 97) #[] #[]] w (IdxPost l F0 w0 R):=by
 have HR:Hid (IdxRel l F0 w0 R (.int .i64 0) w):=Lib.hid ⟨0,Nat.zero_le _,rfl,by simp,h⟩
 have HS:=Lib.hid hs
 have hln:l.length≤1000000000:=hl
 clear h hs hl
 go_enter Tryz.func170,Tryz.ntmps170
 go_wp2_with fail
 go_loopw [8] (IdxRel l F0 w0 R) (fun k _=>l.length - (intOf k).toNat)
 case atStart=>exact HR.out
 case round=>
  obtain⟨k,hk,rfl,hall,hio⟩:=hrel
  clear HR
  by_cases hlt:k < l.length
  ·obtain⟨b,hb⟩:∃ b,l[k]?=some b:=⟨l[k],List.getElem?_eq_getElem hlt⟩
   obtain⟨g,o,rfl,c0,c1,c2⟩:=HS.out.cell hio hb
   have hlt':(k:Int) < (l.length:Int):=Int.ofNat_lt.2 hlt
   have hw2:wrap64 ((k:Int)+1)=(k:Int)+1:=by unfold wrap64;omega
   have K:=Lib.hid (o_rcmay1 b hio)
   have HN:=Lib.hid (fun (h1:mayBk b=true) w' (h':In F0 w0 w' R)=>idx_step (w:=w') hb hall h1 h')
   have HX:=Lib.hid (fun (h1:mayBk b=false) w' (h':In F0 w0 w' R)=>(show IdxPost l F0 w0 R (.returned (.int .i64 k)) w' from ⟨k,rfl,by
    have:l.any (fun b=>!mayBk b)=true:=List.any_eq_true.2 ⟨b,List.mem_of_getElem? hb,by simp [h1]⟩
    rw [this];simp,h'⟩))
   clear hio hall hb hlt hk
   cases hm:mayBk b with
   | true=>
    rw [hm] at K
    have HN1:=Lib.hid (HN.out hm)
    clear HN HX hm
    go_wp2_with fail
    refine K.out.mono ?_
    rintro e w1 ⟨rfl,g1⟩
    have HN2:=Lib.hid (HN1.out w1 g1)
    clear g1 K HN1
    go_wp2_with fail
    go_roundw
    case rel=>(try rw [hw2]);exact HN2.out
    case measure=>(try rw [hw2]);exact meas_lt hlt'
   | false=>
    rw [hm] at K
    have HX1:=Lib.hid (HX.out hm)
    clear HN HX hm
    go_wp2_with fail
    refine K.out.mono ?_
    rintro e w1 ⟨rfl,g1⟩
    have HN2:=Lib.hid (HX1.out w1 g1)
    clear g1 K HX1
    go_wp2_with fail
    go_ret
    exact HN2.out
  ·have hge:(l.length:Int)≤(k:Int):=Int.ofNat_le.2 (Nat.le_of_not_lt hlt)
   have hkl:l.take k=l:=List.take_of_length_le (Nat.le_of_not_lt hlt)
   rw [hkl] at hall
   have G:Hid (IdxPost l F0 w0 R (.returned (.int .i64 (-1))) wr):=Lib.hid ⟨-1,rfl,by
    have:l.any (fun b=>!mayBk b)=false:=List.any_eq_false.2 (fun b hb=>by simp [hall b hb])
    rw [this];rfl,hio⟩
   clear hio hkl hlt hk hall
   go_wp2_with fail
   go_ret
   exact G.out
theorem o_contbk {l:List Bk} {A:Option Addr} {c:Nat} (hs:BksAt F0 w0 R A l) (hl:l.length≤1000000000) (h:In F0 w0 w R):Calls Tryz.prog 96 #[.slice A l.length c,.func (.func 97) #[] #[]] w fun e w'=>e=.returned (.bool (l.any (fun b=>!mayBk b)))∧In F0 w0 w' R:=by
 have K:=Lib.hid (o_idxbk (c:=c) hs hl h)
 clear h hs hl
 go_enter Tryz.func96,Tryz.ntmps96
 go_wp2_with fail
 refine K.out.mono ?_
 rintro e w1 ⟨z,rfl,hz,g⟩
 have HZ:=Lib.hid hz
 have G:=Lib.hid g
 clear g K hz
 go_wp2_with fail
 go_ret
 exact⟨by rw [← HZ.out];rfl,G.out⟩
end
theorem tmay_b (t:Tup) (w:World):Calls Tryz.prog 93 #[.agg (encT t)] w fun e w'=>e=.returned (.bool (decide (MayT t)))∧w'=w.alloc (.cells (encT t) 41):=by
 by_cases h:MayT t
 ·rw [decide_eq_true h];exact tmay_true h w
 ·rw [decide_eq_false h];exact tmay_false h w
theorem mayF_b (f:Fl):decide (MayF f)=(decide (MayT f.t) && (inB f.bk 65535 && (inB f.gen 1000000 && inB f.seen 1099511627776))):=by
 unfold inB
 rw [Bool.eq_iff_iff]
 simp only [decide_eq_true_eq,Bool.and_eq_true,mayF_iff]
 constructor
 ·rintro ⟨a,b,c,d,e,f,g⟩;exact⟨a,⟨b,c⟩,⟨d,e⟩,f,g⟩
 ·rintro ⟨a,⟨b,c⟩,⟨d,e⟩,f,g⟩;exact⟨a,b,c,d,e,f,g⟩
theorem not_any (l:List Bk):(!l.any (fun b=>!mayBk b))=l.all mayBk:=by
 induction l with
 | nil=>rfl
 | cons b l ih=>simp only [List.any_cons,List.all_cons,Bool.not_or,Bool.not_not,ih]
section
variable {F0:List Nat} {w0 w:World} {R:List Asrt}
abbrev agR (r:Rec) (A:Option Addr) (c:Nat):Value:=.agg (encRL r (.slice A r.bks.length c)).toArray
theorem o_rcmay {r:Rec} {A:Option Addr} {c:Nat} (hs:BksAt F0 w0 R A r.bks) (hl:r.bks.length≤1000000000) (h:In F0 w0 w R):Calls Tryz.prog 34 #[agR r A c] w fun e w'=>e=.returned (.bool (mayRec r))∧In F0 w0 w' R:=by
 have H:=Lib.hid h
 have HS:=Lib.hid hs
 have HL:=Lib.hid hl
 clear h hs hl
 obtain⟨kind,fl,gen,bks,bk,till,count⟩:=r
 by_cases k1:kind=1
 ·subst k1
  have e:mayRec ⟨1,fl,gen,bks,bk,till,count⟩=decide (MayF fl):=rfl
  rw [e,mayF_b];clear e
  have KT:=Lib.hid (tmay_b fl.t)
  obtain⟨⟨src,dst,proto,sport,dport⟩,fbk,fgen,fseen⟩:=fl
  simp only at KT ⊢
  have K1:=Lib.hid (rc_in fbk 65535)
  have K2:=Lib.hid (rc_in fgen 1000000)
  have K3:=Lib.hid (rc_time fseen)
  generalize decide (MayT ⟨src,dst,proto,sport,dport⟩)=mt at *
  generalize inB fbk 65535=b1 at *
  generalize inB fgen 1000000=b2 at *
  generalize inB fseen 1099511627776=b3 at *
  cases mt with
  | false=>
   go_enter Tryz.func34,Tryz.ntmps34
   go_wp2_with fail
   refine (KT.out _).mono ?_
   rintro e w1 ⟨rfl,rfl⟩
   clear KT
   go_wp2_with fail
   go_ret
   exact⟨rfl,((H.out.alloc _).alloc _).alloc _⟩
  | true=>
   cases b1 with
   | false=>
    go_enter Tryz.func34,Tryz.ntmps34
    go_wp2_with fail
    refine (KT.out _).mono ?_
    rintro e w1 ⟨rfl,rfl⟩
    clear KT
    go_wp2_with fail
    refine (K1.out _).mono ?_
    rintro e w1 ⟨rfl,rfl⟩
    clear K1
    go_wp2_with fail
    go_ret
    exact⟨rfl,((H.out.alloc _).alloc _).alloc _⟩
   | true=>
    cases b2 with
    | false=>
     go_enter Tryz.func34,Tryz.ntmps34
     go_wp2_with fail
     refine (KT.out _).mono ?_
     rintro e w1 ⟨rfl,rfl⟩
     clear KT
     go_wp2_with fail
     refine (K1.out _).mono ?_
     rintro e w1 ⟨rfl,rfl⟩
     clear K1
     go_wp2_with fail
     refine (K2.out _).mono ?_
     rintro e w1 ⟨rfl,rfl⟩
     clear K2
     go_wp2_with fail
     go_ret
     exact⟨rfl,((H.out.alloc _).alloc _).alloc _⟩
    | true=>
     go_enter Tryz.func34,Tryz.ntmps34
     go_wp2_with fail
     refine (KT.out _).mono ?_
     rintro e w1 ⟨rfl,rfl⟩
     clear KT
     go_wp2_with fail
     refine (K1.out _).mono ?_
     rintro e w1 ⟨rfl,rfl⟩
     clear K1
     go_wp2_with fail
     refine (K2.out _).mono ?_
     rintro e w1 ⟨rfl,rfl⟩
     clear K2
     go_wp2_with fail
     refine (K3.out _).mono ?_
     rintro e w1 ⟨rfl,rfl⟩
     clear K3
     go_wp2_with fail
     go_ret
     exact⟨by simp,((H.out.alloc _).alloc _).alloc _⟩
 by_cases k2:kind=2
 ·subst k2
  have e:mayRec ⟨2,fl,gen,bks,bk,till,count⟩=decide (MayT fl.t):=rfl
  rw [e];clear e k1
  have KT:=Lib.hid (tmay_b fl.t)
  obtain⟨⟨src,dst,proto,sport,dport⟩,fbk,fgen,fseen⟩:=fl
  simp only at KT ⊢
  go_enter Tryz.func34,Tryz.ntmps34
  go_wp2_with fail
  refine (KT.out _).mono ?_
  rintro e w1 ⟨rfl,rfl⟩
  clear KT
  go_wp2_with fail
  go_ret
  exact⟨rfl,(H.out.alloc _).alloc _⟩
 by_cases k3:kind=3
 ·subst k3
  have e:mayRec ⟨3,fl,gen,bks,bk,till,count⟩=(inB gen 1000000 && (decide (bks.length≤16) && bks.all mayBk)):=rfl
  rw [e,← not_any];clear e k1 k2
  have K1:=Lib.hid (rc_in gen 1000000)
  have HG:Hid (∀ o,In F0 w0 (w.alloc o) R):=Lib.hid fun o=>H.out.alloc o
  have K2:Hid (∀ o,Calls Tryz.prog 96 #[.slice A bks.length c,.func (.func 97) #[] #[]] (w.alloc o) fun e w'=>e=.returned (.bool (bks.any (fun b=>!mayBk b)))∧In F0 w0 w' R):=Lib.hid fun o=>o_contbk HS.out HL.out (HG.out o)
  generalize inB gen 1000000=b1 at *
  generalize bks.any (fun b=>!mayBk b)=b2 at *
  cases b1 with
  | false=>
   go_enter Tryz.func34,Tryz.ntmps34
   go_wp2_with fail
   refine (K1.out _).mono ?_
   rintro e w1 ⟨rfl,rfl⟩
   clear K1
   go_wp2_with fail
   go_ret
   exact⟨rfl,H.out.alloc _⟩
  | true=>
   by_cases h16:bks.length≤16
   ·have q:((bks.length:Nat):Int)≤16:=by omega
    have e:(true && (decide (bks.length≤16) && !b2))=!b2:=by simp [h16]
    rw [e];clear e h16
    go_enter Tryz.func34,Tryz.ntmps34
    go_wp2_with fail
    refine (K1.out _).mono ?_
    rintro e w1 ⟨rfl,rfl⟩
    clear K1
    go_wp2_with fail
    refine (K2.out _).mono ?_
    rintro e w1 ⟨rfl,g⟩
    have G:=Lib.hid g
    clear g K2
    go_wp2_with fail
    go_ret
    exact⟨by simp,G.out⟩
   ·have q:decide (((bks.length:Nat):Int)≤16)=false:=decide_eq_false (by omega)
    have q2:decide (bks.length≤16)=false:=decide_eq_false h16
    have e:(true && (decide (bks.length≤16) && !b2))=false:=by simp [h16]
    rw [e];clear e h16
    go_enter Tryz.func34,Tryz.ntmps34
    go_wp2_with fail
    refine (K1.out _).mono ?_
    rintro e w1 ⟨rfl,rfl⟩
    clear K1
    go_wp2_with fail
    go_ret
    exact⟨rfl,H.out.alloc _⟩
 by_cases k4:kind=4
 ·subst k4
  have e:mayRec ⟨4,fl,gen,bks,bk,till,count⟩=(inB bk 65535 && inB till 1099511627776):=rfl
  rw [e];clear e k1 k2 k3
  have K1:=Lib.hid (rc_in bk 65535)
  have K2:=Lib.hid (rc_time till)
  generalize inB bk 65535=b1 at *
  generalize inB till 1099511627776=b2 at *
  cases b1 with
  | false=>
   go_enter Tryz.func34,Tryz.ntmps34
   go_wp2_with fail
   refine (K1.out _).mono ?_
   rintro e w1 ⟨rfl,rfl⟩
   clear K1
   go_wp2_with fail
   go_ret
   exact⟨rfl,H.out.alloc _⟩
  | true=>
   go_enter Tryz.func34,Tryz.ntmps34
   go_wp2_with fail
   refine (K1.out _).mono ?_
   rintro e w1 ⟨rfl,rfl⟩
   clear K1
   go_wp2_with fail
   refine (K2.out _).mono ?_
   rintro e w1 ⟨rfl,rfl⟩
   clear K2
   go_wp2_with fail
   go_ret
   exact⟨by simp,H.out.alloc _⟩
 by_cases k5:kind=5
 ·subst k5
  have e:mayRec ⟨5,fl,gen,bks,bk,till,count⟩=inB bk 65535:=rfl
  rw [e];clear e k1 k2 k3 k4
  have K1:=Lib.hid (rc_in bk 65535)
  go_enter Tryz.func34,Tryz.ntmps34
  go_wp2_with fail
  refine (K1.out _).mono ?_
  rintro e w1 ⟨rfl,rfl⟩
  clear K1
  go_wp2_with fail
  go_ret
  exact⟨rfl,H.out.alloc _⟩
 by_cases k6:kind=6
 ·subst k6
  have e:mayRec ⟨6,fl,gen,bks,bk,till,count⟩=inB count 1000000:=rfl
  rw [e];clear e k1 k2 k3 k4 k5
  have K1:=Lib.hid (rc_in count 1000000)
  go_enter Tryz.func34,Tryz.ntmps34
  go_wp2_with fail
  refine (K1.out _).mono ?_
  rintro e w1 ⟨rfl,rfl⟩
  clear K1
  go_wp2_with fail
  go_ret
  exact⟨rfl,H.out.alloc _⟩
 ·have e:mayRec ⟨kind,fl,gen,bks,bk,till,count⟩=false:=by unfold mayRec;simp only;rw [if_neg k1,if_neg k2,if_neg k3,if_neg k4,if_neg k5,if_neg k6]
  rw [e];clear e
  have q1:(kind == 1)=false:=beq_eq_false_iff_ne.2 k1
  have q2:(kind == 2)=false:=beq_eq_false_iff_ne.2 k2
  have q3:(kind == 3)=false:=beq_eq_false_iff_ne.2 k3
  have q4:(kind == 4)=false:=beq_eq_false_iff_ne.2 k4
  have q5:(kind == 5)=false:=beq_eq_false_iff_ne.2 k5
  have q6:(kind == 6)=false:=beq_eq_false_iff_ne.2 k6
  clear k1 k2 k3 k4 k5 k6
  go_enter Tryz.func34,Tryz.ntmps34
  go_wp2_with fail
  go_ret
  exact⟨rfl,H.out.alloc _⟩
end
theorem heap3_mid (w:World) (A B C:Obj):(((w.alloc A).alloc B).alloc C).heap[w.heap.size+1]?=some B:=by
 rw [heap_alloc_old _ _ (by rw [World.size_alloc,World.size_alloc];omega),heap_alloc2_new]
def setL:Nat→List Value→Array Value→Array Value
 | _,[],C=>C
 | o,x::xs,C=>setL (o+1) xs (C.setIfInBounds o x)
theorem setL_toList:∀ (xs:List Value) (o:Nat) (C:Array Value),o+xs.length≤C.size→(setL o xs C).toList=C.toList.take o++(xs++C.toList.drop (o+xs.length))
 | [],o,C,h=>by simp [setL]
 | x::xs,o,C,h=>by
  simp only [List.length_cons] at h
  have h1:=setL_toList xs (o+1) (C.setIfInBounds o x) (by simp;omega)
  show (setL (o+1) xs (C.setIfInBounds o x)).toList=_
  rw [h1,Array.toList_setIfInBounds]
  have e1:(C.toList.set o x).take (o+1)=C.toList.take o++[x]:=by
   rw [List.take_add_one,List.take_set_of_le (Nat.le_refl _),List.getElem?_set_self (by simp;omega)];rfl
  have e2:(C.toList.set o x).drop (o+1+xs.length)=C.toList.drop (o+1+xs.length):=List.drop_set_of_lt (by omega)
  rw [e1,e2,List.append_assoc]
  simp only [List.length_cons,List.cons_append,List.nil_append]
  rw [show o+1+xs.length=o+(xs.length+1) by omega]
theorem setL_full {xs:List Value} {C:Array Value} (h:xs.length=C.size):setL 0 xs C=xs.toArray:=by
 apply Array.toList_inj.1
 rw [setL_toList xs 0 C (by omega)]
 simp [h]
theorem setL_at {xs ys:List Value} {o:Nat} {C:Array Value} (h:o+xs.length≤C.size) (hy:C.toList.take o++(xs++C.toList.drop (o+xs.length))=ys):setL o xs C=ys.toArray:=by
 apply Array.toList_inj.1
 rw [setL_toList xs o C h,hy]
theorem In.setCs {F0:List Nat} {w0:World} {b:Nat} {T:TypeId}:∀ (xs:List Value) (o:Nat) {w:World} {R:List Asrt} {C:Array Value} (i:Nat),In F0 w0 w R→R[i]?=some (Cells b C T)→In F0 w0 (w.setCells b o xs) (R.set i (Cells b (setL o xs C) T))
 | [],o,w,R,C,i,h,hA=>by
  have:R.set i (Cells b C T)=R:=set_same hA
  show In F0 w0 w (R.set i (Cells b C T))
  rw [this];exact h
 | x::xs,o,w,R,C,i,h,hA=>by
  have h1:=h.put i hA o x
  have hi:i < R.length:=(List.getElem?_eq_some_iff.1 hA).1
  have h2:=In.setCs (b:=b) (T:=T) xs (o+1) (C:=C.setIfInBounds o x) i h1 (by simp [hi])
  rw [List.set_set] at h2
  exact h2
theorem In.setFull {F0:List Nat} {w0 w:World} {R:List Asrt} {b:Nat} {T:TypeId} {C:Array Value} (h:In F0 w0 w R) (i:Nat) (hA:R[i]?=some (Cells b C T)) {xs:List Value} (hl:xs.length=C.size):In F0 w0 (w.setCells b 0 xs) (R.set i (Cells b xs.toArray T)):=by
 have h1:=In.setCs xs 0 i h hA
 rwa [setL_full hl] at h1
theorem there_of {w:World} {b:Nat} {C:Array Value} {T:TypeId} (h:w.heap[b]?=some (.cells C T (0,0))):w.there b 0 C.size:=fun j hj=>by
 rw [Nat.zero_add]
 refine⟨?_,free_of h⟩
 rw [cell_of h (Array.getElem?_eq_getElem hj)];rfl
theorem infoBk:(Tryz.prog.info? 108).map (fun i=>(i.zero.map (fun z=>z.cells.size),i.size,i.bytes))=some (some 3,3,24):=by kernel_rfl
theorem RowA.noc {T:TypeId} {k n n' c:Nat} {a:Option Addr} {xs:List Value} {w:World} {F:List Nat} (h:RowA T k (.slice a n c) n' xs w F) (ha:a=none):c=0:=by
 obtain⟨h0,h1,h2⟩:=h
 rcases h2 with ⟨e,_⟩|⟨g,cap,cur,e,_⟩
 ·cases e;rfl
 ·cases e;cases ha
theorem encRL_all (r:Rec) (a:Option Addr) (n c:Nat):(encRL r (.slice a n c)).toArray.all (·.oneCell')=true:=by simp [Value.oneCell']
abbrev BkR (v:Value) (l:List Bk):Asrt:=RowA 108 3 v l.length (bkV l)
section
variable {F0:List Nat} {w0 w:World} {R:List Asrt}
theorem bkclone_some (h:In F0 w0 w R) {ad:Addr} {l:List Bk} {c:Nat} (hs:Src w (some ad) l.length 3 (bkV l)) (hn:l.length≤1000000) :
  Calls Tryz.prog 59 #[.slice (some ad) l.length c] w fun e w'=>∃ v,e=.returned v∧In F0 w0 w' (BkR v l::R):=by
 have HH:=Lib.hid h
 have HS:=Lib.hid hs
 clear h hs
 have hq:∀ (w:World) (a:Option Addr) (n c n' c':Nat),(binOp .eql 32 (.slice a n c) (.slice none n' c')).run Tryz.prog w=.ok (.bool a.isNone) w:=fun w a n c n' c'=>Lib.run_eql_slice_nil w _ _ a n c n' c' Tryz.underlying32
 go_enter Tryz.func59,Tryz.ntmps59
 go_wp2_with (at_builtin;refine app_list rfl ((HH.out.cells #[] 108).row0 (k:=3) 0 rfl) 0 rfl (.tmp 5) (.tmp 6) 32 (by rfl) Tryz.underlying32 infoBk (by decide) (by decide) (by rfl) (by rfl) (src_alloc HS.out _) (bkV_one _) (by omega) ?_)
 intro v' w3 ho hg
 have HO:Hid (In F0 w0 w3 (BkR v' l::R)):=Lib.hid (by simpa using ho)
 clear ho hg
 go_wp2_with fail
 go_ret
 exact⟨_,rfl,HO.out⟩
theorem bkclone_none (h:In F0 w0 w R):Calls Tryz.prog 59 #[.slice none 0 0] w fun e w'=>∃ v,e=.returned v∧In F0 w0 w' (BkR v []::R):=by
 have HH:=Lib.hid (h.rownil 108 3)
 clear h
 have hq:∀ (w:World) (a:Option Addr) (n c n' c':Nat),(binOp .eql 32 (.slice a n c) (.slice none n' c')).run Tryz.prog w=.ok (.bool a.isNone) w:=fun w a n c n' c'=>Lib.run_eql_slice_nil w _ _ a n c n' c' Tryz.underlying32
 go_enter Tryz.func59,Tryz.ntmps59
 go_wp2_with fail
 go_ret
 exact⟨_,rfl,HH.out⟩
theorem o_bkclone (h:In F0 w0 w R) {A:Option Addr} {c:Nat} {l:List Bk} (hn:A=none→c=0) (hs:Src w A l.length 3 (bkV l)) (hl:l.length≤1000000) :
  Calls Tryz.prog 59 #[.slice A l.length c] w fun e w'=>∃ v,e=.returned v∧In F0 w0 w' (BkR v l::R):=by
 cases A with
 | none=>
  obtain rfl:=hn rfl
  have:l=[]:=by
   cases l with
   | nil=>rfl
   | cons b l=>obtain⟨ad,e,_⟩:=hs.at' (by simp);cases e
  subst this
  exact bkclone_none h
 | some ad=>exact bkclone_some h hs hl
def RecPost (x:Rec) (F0:List Nat) (w0:World) (R:List Asrt) (e:Ending) (w':World):Prop:=∃ v,e=.returned (.agg (encRL x v).toArray)∧In F0 w0 w' (BkR v x.bks::R)
theorem rec_end {y:Rec} {pv:Value} {l:List Bk} {b1 b2:Nat} {C1:Array Value} {Q:List Asrt} (h:In F0 w0 w (BkR pv l::Cells b2 (encRL y pv).toArray 45::Cells b1 C1 45::Q)) (hC:C1.size=14) :
  (w.heap[b2]?=some (.cells (encRL y pv).toArray 45 (0,0))∧w.there b1 0 14)∧((w.setCells b1 0 (encRL y pv)).heap[b1]?=some (.cells (encRL y pv).toArray 45 (0,0))∧In F0 w0 (w.setCells b1 0 (encRL y pv)) (BkR pv l::Q)):=by
 have h2:=h.setFull 2 rfl (xs:=encRL y pv) (b:=b1) (C:=C1) (T:=45) (by rw [hC];rfl)
 have ht:=there_of (h.block 2 rfl)
 rw [hC] at ht
 exact⟨⟨h.block 1 rfl,ht⟩,h2.block 2 rfl,h2.sel2 (R1:=[_,_,_]) [0] (by decide) rfl⟩
end
section
variable {F0:List Nat} {w0 w:World} {R:List Asrt}
theorem o_rcplain3 {src dst proto sport dport fbk fgen fseen gen bk till count:Int} {bks:List Bk} {A:Option Addr} {c:Nat} (hs:BksAt F0 w0 R A bks) (hn:A=none→c=0) (hl:bks.length≤1000000) (h:In F0 w0 w R):Calls Tryz.prog 115 #[agR ⟨3,⟨⟨src,dst,proto,sport,dport⟩,fbk,fgen,fseen⟩,gen,bks,bk,till,count⟩ A c] w (RecPost ⟨3,zeroF,gen,bks,0,0,0⟩ F0 w0 R):=by
 obtain⟨C0,hC0⟩:∃ C,C=(encRL ⟨3,⟨⟨src,dst,proto,sport,dport⟩,fbk,fgen,fseen⟩,gen,bks,bk,till,count⟩ (.slice A bks.length c)).toArray:=⟨_,rfl⟩
 obtain⟨C1,hC1⟩:∃ C,C=(encRL zeroRec (.slice none 0 0)).toArray:=⟨_,rfl⟩
 obtain⟨C2,hC2⟩:∃ C,C=(encRL ⟨3,zeroF,0,[],0,0,0⟩ (.slice none 0 0)).toArray:=⟨_,rfl⟩
 have h3:In F0 w0 (((w.alloc (.cells C0 45)).alloc (.cells C1 45)).alloc (.cells C2 45)) (Cells (w.heap.size+1+1) C2 45::Cells (w.heap.size+1) C1 45::Cells w.heap.size C0 45::R):=by
  have h3:=((h.cells C0 45).cells C1 45).cells C2 45
  simp only [World.size_alloc] at h3
  exact h3
 have HH3:=Lib.hid (fun n=>h3.drewN n)
 have y0:=cell_of (o:=9) (h3.block 2 rfl) (show C0[9]?=some (.int .i64 gen) by rw [hC0];rfl)
 have y1:=cell_of (o:=10) (h3.block 2 rfl) (show C0[10]?=some (.slice A bks.length c) by rw [hC0];rfl)
 have K:=Lib.hid (fun w' (h':In F0 w0 w' (Cells (w.heap.size+1+1) C2 45::Cells (w.heap.size+1) C1 45::Cells w.heap.size C0 45::R))=>o_bkclone (c:=c) h' hn (hs _ h'.drop.drop.drop) hl)
 have HA:Hid (∀ w' v,In F0 w0 w' (BkR v bks::Cells (w.heap.size+1+1) C2 45::Cells (w.heap.size+1) C1 45::Cells w.heap.size C0 45::R) →
   (w'.cell? ⟨w.heap.size,9,none⟩=some (.int .i64 gen)∧w'.cell? ⟨w.heap.size,10,none⟩=some (.slice A bks.length c))∧(w'.frozen? ⟨w.heap.size+1+1,9,none⟩=false∧w'.frozen? ⟨w.heap.size+1+1,10,none⟩=false)∧(w'.cell? ⟨w.heap.size+1+1,9,none⟩=some (.int .i64 0)∧w'.cell? ⟨w.heap.size+1+1,10,none⟩=some (.slice none 0 0)) ∧
   ∃ a cc,v=.slice a bks.length cc):=Lib.hid fun w' v h'=>by
  obtain⟨F,hr⟩:=h'.get 0 rfl
  obtain⟨a,cc,e,-,-,-⟩:=RowA.shape hr
  exact⟨⟨cell_of (h'.block 3 rfl) (by rw [hC0];rfl),cell_of (h'.block 3 rfl) (by rw [hC0];rfl)⟩,⟨free_of (h'.block 1 rfl),free_of (h'.block 1 rfl)⟩,⟨cell_of (h'.block 1 rfl) (by rw [hC2];rfl),cell_of (h'.block 1 rfl) (by rw [hC2];rfl)⟩,a,cc,e⟩
 have HB:Hid (∀ w' v,In F0 w0 w' (BkR v bks::Cells (w.heap.size+1+1) C2 45::Cells (w.heap.size+1) C1 45::Cells w.heap.size C0 45::R) →
   In F0 w0 ((w'.setCell ⟨w.heap.size+1+1,9,none⟩ (.int .i64 gen)).setCell ⟨w.heap.size+1+1,10,none⟩ v) (BkR v bks::Cells (w.heap.size+1+1) (encRL ⟨3,zeroF,gen,bks,0,0,0⟩ v).toArray 45::Cells (w.heap.size+1) C1 45::Cells w.heap.size C0 45::R)):=Lib.hid fun w' v h'=>by
  have h2:=In.setCs [.int .i64 gen,v] 9 1 h' (b:=w.heap.size+1+1) (C:=C2) (T:=45) rfl
  rw [setL_at (ys:=(encRL ⟨3,zeroF,gen,bks,0,0,0⟩ v)) (by rw [hC2];simp) (by rw [hC2];simp [zeroF,zeroT])] at h2
  exact h2
 have HC:Hid (∀ w' v,In F0 w0 w' (BkR v bks::Cells (w.heap.size+1+1) (encRL ⟨3,zeroF,gen,bks,0,0,0⟩ v).toArray 45::Cells (w.heap.size+1) C1 45::Cells w.heap.size C0 45::R) →
   (w'.heap[w.heap.size+1+1]?=some (.cells (encRL ⟨3,zeroF,gen,bks,0,0,0⟩ v).toArray 45 (0,0))∧w'.there (w.heap.size+1) 0 14) ∧
   ((w'.setCells (w.heap.size+1) 0 (encRL ⟨3,zeroF,gen,bks,0,0,0⟩ v)).heap[w.heap.size+1]?=some (.cells (encRL ⟨3,zeroF,gen,bks,0,0,0⟩ v).toArray 45 (0,0))∧In F0 w0 (w'.setCells (w.heap.size+1) 0 (encRL ⟨3,zeroF,gen,bks,0,0,0⟩ v)) (BkR v bks::R))):=Lib.hid fun w' v h'=>by
  have h2:=h'.setFull 2 rfl (xs:=(encRL ⟨3,zeroF,gen,bks,0,0,0⟩ v)) (b:=w.heap.size+1) (C:=C1) (T:=45) (by rw [hC1];rfl)
  have ht:=there_of (h'.block 2 rfl)
  rw [hC1] at ht
  exact⟨⟨h'.block 1 rfl,ht⟩,h2.block 2 rfl,h2.sel2 (R1:=[_,_,_,_]) [0] (by decide) rfl⟩
 have hne1:¬ w.heap.size+1+1=w.heap.size:=by omega
 have hne2:¬ w.heap.size=w.heap.size+1+1:=by omega
 clear h h3 hs hn hl
 subst hC0 hC1 hC2
 go_enter Tryz.func115,Tryz.ntmps115
 go_wp2_with fail
 go_region_held3 (fun w'=>w'.cell? ⟨w.heap.size,9,none⟩=some (.int .i64 gen)∧w'.cell? ⟨w.heap.size,10,none⟩=some (.slice A bks.length c)) (first | exact hz | exact⟨y0,y1⟩ | go_keep)
  (first | (go_at_call 59;refine (K.out _ (HH3.out _)).mono ?_;rintro e w1 ⟨v,rfl,g1⟩;obtain⟨hz,⟨f1,f2⟩,⟨d1,d2⟩,av,cv,rfl⟩:=HA.out w1 v g1;have G2:=Lib.hid (HB.out w1 _ g1);clear g1))
 clear y0 y1 K HA HB hz HH3 f1 f2 d1 d2
 obtain⟨⟨q1,q2⟩,q3,q4⟩:=HC.out _ _ G2.out
 have Q2:=Lib.hid q2
 have Q3:=Lib.hid (And.intro q3 q4)
 clear HC G2 q2 q3 q4
 go_wp2_with (refine wpList_load_row rfl 45 (.tmp 3) rfl (w.heap.size+1+1) rfl 45 _ (0,0) _ q1 Tryz.underlying45 rfl (by kernel_rfl) ?_;refine wpList_store_mid (op:=⟨none,Op.store 45 (.tmp 2) (.tmp 48),_,_,_,_⟩) (by rfl) 45 (.tmp 2) (.tmp 48) rfl (w.heap.size+1) 0 (encRL ⟨3,zeroF,gen,bks,0,0,0⟩ (.slice av bks.length cv)).toArray (by rfl) (by rfl) Q2.out (by kernel_rfl) (encRL_all _ _ _ _) ?_)
 exact bodyPost_ret (results_cell_row Tryz.results115 _ _ (w.heap.size+1) 45 _ (0,0) _ rfl Q3.out.1 Tryz.underlying45 rfl (by kernel_rfl)) rfl ⟨_,rfl,Q3.out.2⟩
end
section
variable {F0:List Nat} {w0 w:World} {R:List Asrt}
theorem o_rcplain {r:Rec} {A:Option Addr} {c:Nat} (hs:BksAt F0 w0 R A r.bks) (hn:A=none→c=0) (hl:r.bks.length≤1000000) (h:In F0 w0 w R):Calls Tryz.prog 115 #[agR r A c] w (RecPost (plainRec r) F0 w0 R):=by
 have H:Hid (∀ w' ,In F0 w0 w' R→In F0 w0 w' (BkR (.slice none 0 0) []::R)):=Lib.hid fun w' h'=>h'.rownil _ _
 have HH:=Lib.hid h
 obtain⟨kind,fl,gen,bks,bk,till,count⟩:=r
 by_cases k1:kind=1
 ·subst k1
  have e:plainRec ⟨1,fl,gen,bks,bk,till,count⟩=⟨1,fl,0,[],0,0,0⟩:=rfl
  rw [e];clear e h hs hn hl
  obtain⟨⟨src,dst,proto,sport,dport⟩,fbk,fgen,fseen⟩:=fl
  go_enter Tryz.func115,Tryz.ntmps115
  go_wp2_with fail
  exact bodyPost_ret (results_cell_row Tryz.results115 _ _ (w.heap.size+1) 45 _ (0,0) _ rfl (heap3_mid w _ _ _) Tryz.underlying45 rfl (by kernel_rfl)) rfl ⟨.slice none 0 0,rfl,H.out _ (((HH.out.alloc _).alloc _).alloc _)⟩
 by_cases k2:kind=2
 ·subst k2
  have e:plainRec ⟨2,fl,gen,bks,bk,till,count⟩=⟨2,⟨fl.t,0,0,0⟩,0,[],0,0,0⟩:=rfl
  rw [e];clear e h hs hn hl k1
  obtain⟨⟨src,dst,proto,sport,dport⟩,fbk,fgen,fseen⟩:=fl
  go_enter Tryz.func115,Tryz.ntmps115
  go_wp2_with fail
  exact bodyPost_ret (results_cell_row Tryz.results115 _ _ (w.heap.size+1) 45 _ (0,0) _ rfl (heap3_mid w _ _ _) Tryz.underlying45 rfl (by kernel_rfl)) rfl ⟨.slice none 0 0,rfl,H.out _ (((HH.out.alloc _).alloc _).alloc _)⟩
 by_cases k3:kind=3
 ·subst k3
  have e:plainRec ⟨3,fl,gen,bks,bk,till,count⟩=⟨3,zeroF,gen,bks,0,0,0⟩:=rfl
  rw [e];clear e k1 k2
  obtain⟨⟨src,dst,proto,sport,dport⟩,fbk,fgen,fseen⟩:=fl
  exact o_rcplain3 hs hn hl h
 by_cases k4:kind=4
 ·subst k4
  have e:plainRec ⟨4,fl,gen,bks,bk,till,count⟩=⟨4,zeroF,0,[],bk,till,0⟩:=rfl
  rw [e];clear e h hs hn hl k1 k2 k3
  go_enter Tryz.func115,Tryz.ntmps115
  go_wp2_with fail
  have hne1:¬ w.heap.size+1+1=w.heap.size:=by omega
  have hne2:¬ w.heap.size=w.heap.size+1+1:=by omega
  go_region_held3 (fun w'=>w'.cell? ⟨w.heap.size,11,none⟩=some (.int .i64 bk)∧w'.cell? ⟨w.heap.size,12,none⟩=some (.int .i64 till)) (first | exact⟨rfl,rfl⟩ | (refine⟨?_,?_⟩ <;> go_simp;done) | go_keep) (fail)
  go_wp2_with fail
  exact bodyPost_ret (results_cell_row Tryz.results115 _ _ (w.heap.size+1) 45 _ (0,0) _ rfl (heap3_mid w _ _ _) Tryz.underlying45 rfl (by kernel_rfl)) rfl ⟨.slice none 0 0,rfl,H.out _ ((((HH.out.alloc _).alloc _).alloc _).drewN 1)⟩
 by_cases k5:kind=5
 ·subst k5
  have e:plainRec ⟨5,fl,gen,bks,bk,till,count⟩=⟨5,zeroF,0,[],bk,0,0⟩:=rfl
  rw [e];clear e h hs hn hl k1 k2 k3 k4
  go_enter Tryz.func115,Tryz.ntmps115
  go_wp2_with fail
  exact bodyPost_ret (results_cell_row Tryz.results115 _ _ (w.heap.size+1) 45 _ (0,0) _ rfl (heap3_mid w _ _ _) Tryz.underlying45 rfl (by kernel_rfl)) rfl ⟨.slice none 0 0,rfl,H.out _ (((HH.out.alloc _).alloc _).alloc _)⟩
 by_cases k6:kind=6
 ·subst k6
  have e:plainRec ⟨6,fl,gen,bks,bk,till,count⟩=⟨6,zeroF,0,[],0,0,count⟩:=rfl
  rw [e];clear e h hs hn hl k1 k2 k3 k4 k5
  go_enter Tryz.func115,Tryz.ntmps115
  go_wp2_with fail
  exact bodyPost_ret (results_cell_row Tryz.results115 _ _ (w.heap.size+1) 45 _ (0,0) _ rfl (heap3_mid w _ _ _) Tryz.underlying45 rfl (by kernel_rfl)) rfl ⟨.slice none 0 0,rfl,H.out _ (((HH.out.alloc _).alloc _).alloc _)⟩
 ·have e:plainRec ⟨kind,fl,gen,bks,bk,till,count⟩=⟨kind,zeroF,0,[],0,0,0⟩:=by unfold plainRec;simp only;rw [if_neg k1,if_neg k2,if_neg k3,if_neg k4,if_neg k5,if_neg k6]
  have q1:(kind == 1)=false:=beq_eq_false_iff_ne.2 k1
  have q2:(kind == 2)=false:=beq_eq_false_iff_ne.2 k2
  have q3:(kind == 3)=false:=beq_eq_false_iff_ne.2 k3
  have q4:(kind == 4)=false:=beq_eq_false_iff_ne.2 k4
  have q5:(kind == 5)=false:=beq_eq_false_iff_ne.2 k5
  have q6:(kind == 6)=false:=beq_eq_false_iff_ne.2 k6
  rw [e];clear e h hs hn hl k1 k2 k3 k4 k5 k6
  go_enter Tryz.func115,Tryz.ntmps115
  go_wp2_with fail
  exact bodyPost_ret (results_cell_row Tryz.results115 _ _ (w.heap.size+1) 45 _ (0,0) _ rfl (heap3_mid w _ _ _) Tryz.underlying45 rfl (by kernel_rfl)) rfl ⟨.slice none 0 0,rfl,H.out _ (((HH.out.alloc _).alloc _).alloc _)⟩
end
theorem setCells_heap:∀ (us:List Value) (w:World) (g o:Nat) (C:Array Value) (T:TypeId) (fz:Nat×Nat),w.heap[g]?=some (.cells C T fz)→o+us.length≤C.size →
  ∃ C',(w.setCells g o us).heap[g]?=some (.cells C' T fz)∧C'.toList=C.toList.take o++us++C.toList.drop (o+us.length)∧Mod [g] w (w.setCells g o us)
 | [],w,g,o,C,T,fz,h,_=>⟨C,h,by simp,Mod.refl _ _⟩
 | v::r,w,g,o,C,T,fz,h,hl=>by
  have hl':o+1+r.length≤C.size:=by simp at hl;omega
  have h1:=hp_setCell_same (o:=o) (v:=v) h
  obtain⟨C',e1,e2,e3⟩:=setCells_heap r (w.setCell ⟨g,o,none⟩ v) g (o+1) _ T fz h1 (by simpa using hl')
  refine⟨C',e1,?_,((Mod.refl [g] w).setCell (p:=⟨g,o,none⟩) (Or.inl (by simp)) v).trans' e3⟩
  rw [e2]
  have ho:o < C.toList.length:=by rw [Array.length_toList];omega
  rw [Array.toList_setIfInBounds,List.take_set,List.drop_set,if_pos (by omega),List.take_add_one]
  rw [show (C.toList[o]?).toList=[C.toList[o]] by rw [List.getElem?_eq_getElem ho];rfl]
  rw [List.set_append_right _ _ (by simp;omega)]
  rw [show o - (C.toList.take o).length=0 by simp;omega]
  simp only [List.set_cons_zero,List.append_assoc,List.cons_append,List.nil_append,List.length_cons]
  rw [show o+1+r.length=o+(r.length+1) by omega]
def putAt (xs:List Value) (o:Nat) (us:List Value):List Value:=xs.take o++us++xs.drop (o+us.length)
theorem putAt_length {xs us:List Value} {o:Nat} (h:o+us.length≤xs.length):(putAt xs o us).length=xs.length:=by unfold putAt;simp;omega
theorem RowA.put {T:TypeId} {k:Nat} {g n' n cap:Nat} {xs:List Value} {w:World} {F:List Nat} (h:RowA T k (.slice (some ⟨g,0,none⟩) n' cap) n xs w F) {o:Nat} {us:List Value} (ho:o+us.length≤xs.length) :
  RowA T k (.slice (some ⟨g,0,none⟩) n' cap) n (putAt xs o us) (w.setCells g o us) F∧Mod F w (w.setCells g o us):=by
 obtain⟨h0,h1,h2⟩:=h
 rcases h2 with ⟨e,h3⟩|⟨g',cap',cur,e,h3,h4,h5,h6,h7,h8⟩
 ·cases e
 ·cases e
  have hlen:xs.length≤cur.size:=by
   have:=congrArg List.length h8
   simp at this;omega
  obtain⟨C',e1,e2,e3⟩:=setCells_heap us w g o cur T (0,0) h4 (by omega)
  refine⟨⟨h0,by rw [putAt_length ho,h1],Or.inr ⟨g,cap,C',rfl,h3,e1,h5,h6,?_,?_⟩⟩,e3.mono (fun b hb=>by rw [h0];simpa [Value.ownBlock] using hb)⟩
  ·rw [← Array.length_toList,e2];simp;omega
  ·rw [e2]
   obtain⟨D,e4⟩:∃ D,cur.toList=xs++D:=⟨cur.toList.drop (n' * k),by rw [← h8,List.take_append_drop]⟩
   have hx:xs.length=n' * k:=h1
   rw [e4]
   unfold putAt
   have a1:(xs++D).take o=xs.take o:=List.take_append_of_le_length (by omega)
   have a2:(xs++D).drop (o+us.length)=xs.drop (o+us.length)++D:=List.drop_append_of_le_length (by omega)
   rw [a1,a2,← List.append_assoc,List.take_append_of_le_length (by simp;omega),List.take_of_length_le (by simp;omega)]
theorem RowA.there {T:TypeId} {k:Nat} {g n' n cap:Nat} {xs:List Value} {w:World} {F:List Nat} (h:RowA T k (.slice (some ⟨g,0,none⟩) n' cap) n xs w F) {o m:Nat} (ho:o+m≤xs.length):w.there g o m:=by
 obtain⟨h0,h1,h2⟩:=h
 rcases h2 with ⟨e,h3⟩|⟨g',cap',cur,e,h3,h4,h5,h6,h7,h8⟩
 ·cases e
 ·cases e
  have hlen:xs.length≤cur.size:=by
   have:=congrArg List.length h8
   simp at this;omega
  intro j hj
  refine⟨?_,free_of h4⟩
  rw [cell_of h4 (v:=cur[o+j]'(by omega)) (Array.getElem?_eq_getElem _)];rfl
theorem row_put {F0:List Nat} {w0 w:World} {R:List Asrt} {T:TypeId} {k g n' n cap:Nat} {xs:List Value} (h:In F0 w0 w R) (i:Nat) (hA:R[i]?=some (RowA T k (.slice (some ⟨g,0,none⟩) n' cap) n xs)) {o:Nat} {us:List Value} (ho:o+us.length≤xs.length) :
  In F0 w0 (w.setCells g o us) (R.set i (RowA T k (.slice (some ⟨g,0,none⟩) n' cap) n (putAt xs o us))):=
 h.step i hA (RowA.framed _ _ _ _ _) fun F hF=>⟨F,(hF.put ho).1,Grew.refl _ _,(hF.put ho).2⟩
end Go.Proofs.YtaopfagclnocdaaGreat
