/- Rows.CompactBoundsSaid -/
import Derived.Test.YtaopfagclnocdaaGreatCU38
import Derived.Laws.EntriesVeiled
import Derived.Test.YtaopfagclnocdaaGreatCU10
import Derived.StillTailTactics
namespace Go.Proofs.YtaopfagclnocdaaGreat
open Go.RowKit
set_option linter.unusedVariables false
set_option maxHeartbeats 64000000
set_option maxRecDepth 100000
section
variable {F0:List Nat} {w0 w:World} {R:List Asrt} {pn:Value} {bd lb sb:Nat} {d:DiskD} {l:LogD}
def RwQ (lb sb lx gb hb nx nm:Nat) (RB:List Asrt):List Asrt:=
 Cells nm #[f2V gb] 182::Cells nx #[f1V gb lx hb] 280::Cells gb #[.pointer (some ⟨sb,0,none⟩)] 252::Cells lx #[dptr lb] 78::RowA 5 1 (.slice none 0 0) 0 []::RB
def RwRel (pn:Value) (lb bd sb hb:Nat) (l:LogD) (d:DiskD) (bs:List (List UInt8)) (Q:List Asrt) (F0:List Nat) (w0:World) (i:Value) (wr:World):Prop:=
 ∃ (k:Nat) (s:SLN),k≤bs.length∧i=.int .i64 k∧rowsD l (bs.take k) (d,[],0)=(s,0)∧RwI l d k s∧In F0 w0 wr (RowsR pn lb bd sb hb l s Q)
def RwPost (pn:Value) (lb bd sb:Nat) (l:LogD) (bs:List (List UInt8)) (d:DiskD) (F0:List Nat) (w0:World) (RB:List Asrt) (e:Ending) (w':World):Prop:=
 e=.returned (.int .i64 (layD l bs d).2)∧In F0 w0 w' (LgP pn lb bd l::DkA bd (layD l bs d).1.1::SegA sb (layD l bs d).1.2.1::RB)
theorem rw_done {hb lx gb nx nm:Nat} {RB:List Asrt} {bs:List (List UInt8)} {r:SLN×Int} (hr:layD l bs d=r) (h:In F0 w0 w (RowsR pn lb bd sb hb l r.1 (RwQ lb sb lx gb hb nx nm RB))):RwPost pn lb bd sb l bs d F0 w0 RB (.returned (.int .i64 r.2)) w:=by
 refine⟨by rw [hr],?_⟩
 rw [hr]
 exact h.sel2 (R1:=[_,_,_,_,_,_,_,_,_]) [0,1,2] (by decide) rfl
theorem rw_done2 {hb lx gb nx nm bb:Nat} {C:Array Value} {ty:Nat} {RB:List Asrt} {bs:List (List UInt8)} {r:SLN×Int} (hr:layD l bs d=r) (h:In F0 w0 w (RowsR pn lb bd sb hb l r.1 (Cells bb C ty::RwQ lb sb lx gb hb nx nm RB))):RwPost pn lb bd sb l bs d F0 w0 RB (.returned (.int .i64 r.2)) w:=
 rw_done hr (h.sel2 (R1:=[_,_,_,_,_]) [0,1,2,3] (by decide) rfl)
theorem rw_next {hb lx gb nx nm bb k:Nat} {C:Array Value} {ty:Nat} {RB:List Asrt} {bs:List (List UInt8)} {s:SLN} {x:List UInt8} (hx:bs[k]?=some x) (h0:rowsD l (bs.take k) (d,[],0)=(s,0)) (hI:RwI l d k s) (hx5:x.length≤5000) :
  ((rowD l x s).2=0→∀ w',In F0 w0 w' (RowsR pn lb bd sb hb l (rowD l x s).1 (Cells bb C ty::RwQ lb sb lx gb hb nx nm RB))→RwRel pn lb bd sb hb l d bs (RwQ lb sb lx gb hb nx nm RB) F0 w0 (.int .i64 ((k:Int)+1)) w') ∧
  ((rowD l x s).2≠0→∀ w',In F0 w0 w' (RowsR pn lb bd sb hb l (rowD l x s).1 (Cells bb C ty::RwQ lb sb lx gb hb nx nm RB))→RwPost pn lb bd sb l bs d F0 w0 RB (.returned (.int .i64 (rowD l x s).2)) w'):=by
 have hk:=(List.getElem?_eq_some_iff.1 hx).1
 have e1:rowsD l (bs.take (k+1)) (d,[],0)=rowD l x s:=by
  rw [List.take_add_one,hx]
  show rowsD l (bs.take k++[x]) (d,[],0)=_
  rw [rowsD_app,h0,thenD_ok rfl]
  exact rowsD_one l x s
 refine⟨fun hz w' h'=>⟨k+1,(rowD l x s).1,hk,by rw [Int.natCast_add];rfl,by rw [e1];exact Prod.ext rfl hz,hI.row hx5,h'.sel2 (R1:=[_,_,_,_,_]) [0,1,2,3] (by decide) rfl⟩,fun hz w' h'=>?_⟩
 have e2:rowsD l bs (d,[],0)=rowD l x s:=by
  have e:bs=bs.take (k+1)++bs.drop (k+1):=(List.take_append_drop _ _).symm
  rw [e,rowsD_app,e1,thenD_err hz]
 exact rw_done2 (by rw [layD_err (by rw [e2];exact hz),e2]) h'
theorem o_rows {bs:List (List UInt8)} {vs:List Value} {a:Option Addr} {c:Nat} (hvs:vs.length=bs.length) (h:In F0 w0 w (LgP pn lb bd l::DkA bd d::SegA sb []::RowA 61 1 (.slice a bs.length c) bs.length vs::(bodB vs bs++R))) (hl:LgOk l) (ho:d.ops≤99900000) (hb5:∀ b∈bs,b.length≤5000) (hn:bs.length≤1000) :
  Calls Tryz.prog 210 #[dptr lb,.slice a bs.length c,.pointer (some ⟨sb,0,none⟩)] w (RwPost pn lb bd sb l bs d F0 w0 (RowA 61 1 (.slice a bs.length c) bs.length vs::(bodB vs bs++R))):=by
 obtain⟨RB,hRB⟩:∃ RB,RowA 61 1 (.slice a bs.length c) bs.length vs::(bodB vs bs++R)=RB:=⟨_,rfl⟩
 have hm:=(mayM_iff.1 hl.2.2).1
 have hnx:l.m.next≤1000000:=hm.2.2.2.2.2
 have HRB:Hid (RB[0]?=some (RowA 61 1 (.slice a bs.length c) bs.length vs)∧∀ k v b,vs[k]?=some v→bs[k]?=some b→RB[k+1]?=some (RowA 5 1 v b.length (u8s b))):=Lib.hid ⟨by rw [← hRB];rfl,fun k v b h1 h2=>by rw [← hRB,List.getElem?_cons_succ];exact bodB_at h1 h2⟩
 rw [hRB] at h ⊢
 have hmf:∀ (fn:Fn) (first cap:Array Value) (w:World),(Instr.makeFunc fn first cap).run Tryz.prog w=.ok (.func fn first cap) w:=fun _ _ _ _=>rfl
 have h1:=(((((h.rownil 5 1).cells #[dptr lb] 78).cells #[.pointer (some ⟨sb,0,none⟩)] 252).cells #[.int .i64 0] 3).cells #[f1V (w.heap.size+1) w.heap.size (w.heap.size+1+1)] 280).cells #[f2V (w.heap.size+1)] 182
 simp only [World.size_alloc] at h1
 obtain⟨n0,hn0⟩:∃ n0,n0=w.heap.size:=⟨_,rfl⟩
 rw [← hn0] at h1
 have h2:In F0 w0 _ (RowsR pn lb bd sb (n0+1+1) l (d,[],0) (RwQ lb sb n0 (n0+1) (n0+1+1) (n0+1+1+1) (n0+1+1+1+1) RB)):=h1.sel2 (R1:=[_,_,_,_,_,_,_,_,_]) [6,7,8,2,0,1,3,4,5] (by decide) rfl
 have HR:Hid (RwRel pn lb bd sb (n0+1+1) l d bs (RwQ lb sb n0 (n0+1) (n0+1+1) (n0+1+1+1) (n0+1+1+1+1) RB) F0 w0 (.int .i64 0) _):=Lib.hid ⟨0,(d,[],0),Nat.zero_le _,rfl,rfl,⟨by simp,by simp,by simp,by simp⟩,h2⟩
 have HO:=Lib.hid ho
 have HB5:=Lib.hid hb5
 have HVS:=Lib.hid hvs
 have hnl:bs.length≤1000:=hn
 have HNX:=Lib.hid hnx
 have HSZ:=Lib.hid hl.2.1
 clear h h1 h2 hm hnx ho hb5 hvs hl hRB hn
 go_enter Tryz.func210,Tryz.ntmps210
 unfold f1V f2V at HR
 rw [hn0] at HR
 go_wp2_with fail
 go_loopw [18] (RwRel pn lb bd sb (w.heap.size+1+1) l d bs (RwQ lb sb w.heap.size (w.heap.size+1) (w.heap.size+1+1) (w.heap.size+1+1+1) (w.heap.size+1+1+1+1) RB) F0 w0) (fun k _=>bs.length - (intOf k).toNat)
 case atStart=>exact HR.out
 case round=>
  obtain⟨k,s,hk,rfl,h0,hI,hio⟩:=hrel
  clear HR
  by_cases hlt:k < bs.length
  ·obtain⟨x,hx⟩:∃ x,bs[k]?=some x:=⟨bs[k],List.getElem?_eq_getElem hlt⟩
   obtain⟨v,hv⟩:∃ v,vs[k]?=some v:=⟨vs[k]'(by rw [HVS.out];exact hlt),List.getElem?_eq_getElem _⟩
   have hbody:=HRB.out.2 k v x hv hx
   obtain⟨Fb,hbb⟩:=hio.get (k+1+9) (A:=RowA 5 1 v x.length (u8s x)) hbody
   obtain⟨A,cA,rfl,hA1,hA2,-⟩:=hbb.shape
   obtain⟨Fr,hrr⟩:=hio.get 9 (A:=RowA 61 1 (.slice a bs.length c) bs.length vs) HRB.out.1
   obtain⟨g,rfl,c0⟩:=hrr.at.2 k _ hv
   have hx5:=HB5.out x (List.mem_of_getElem? hx)
   have HN:=Lib.hid (rw_next (F0:=F0) (w0:=w0) (pn:=pn) (lb:=lb) (bd:=bd) (sb:=sb) (hb:=w.heap.size+1+1) (lx:=w.heap.size) (gb:=w.heap.size+1) (nx:=w.heap.size+1+1+1) (nm:=w.heap.size+1+1+1+1) (bb:=wr.heap.size) (C:=#[.slice A x.length cA]) (ty:=61) (RB:=RB) hx h0 hI hx5)
   have h6:=(hio.cells #[.slice A x.length cA] 61).sel2 (R1:=[_,_,_,_,_]) [1,2,3,4,0] (by decide) rfl
   have hlt':(k:Int) < (bs.length:Int):=Int.ofNat_lt.2 hlt
   have hw2:wrap64 ((k:Int)+1)=(k:Int)+1:=by unfold wrap64;omega
   obtain⟨i1,i2,i3,i4⟩:=hI
   have hk1000:k≤1000:=by omega
   have hops:s.1.ops≤99980000:=by have:=HO.out;omega
   have hhv:s.2.2≤5000000:=by omega
   have HF:Hid (hbody=hbody):=Lib.hid rfl
   have HBO:=Lib.hid hbody
   have b0:(wr.alloc (.cells #[.slice A x.length cA] 61)).cell? ⟨wr.heap.size,0,none⟩=some (.slice A x.length cA):=cell_of (h6.block 4 rfl) rfl
   have b1:(wr.alloc (.cells #[.slice A x.length cA] 61)).cell? ⟨w.heap.size+1,0,none⟩=some (.pointer (some ⟨sb,0,none⟩)):=cell_of (h6.block 7 rfl) rfl
   have b2:(wr.alloc (.cells #[.slice A x.length cA] 61)).cell? ⟨w.heap.size,0,none⟩=some (dptr lb):=cell_of (h6.block 8 rfl) rfl
   have b3:(wr.alloc (.cells #[.slice A x.length cA] 61)).cell? ⟨w.heap.size+1+1,0,none⟩=some (.int .i64 s.2.2):=cell_of (h6.block 3 rfl) rfl
   have b4:(wr.alloc (.cells #[.slice A x.length cA] 61)).cell? ⟨w.heap.size+1+1+1,0,none⟩=some (f1V (w.heap.size+1) w.heap.size (w.heap.size+1+1)):=cell_of (h6.block 6 rfl) rfl
   have b5:(wr.alloc (.cells #[.slice A x.length cA] 61)).cell? ⟨w.heap.size+1+1+1+1,0,none⟩=some (f2V (w.heap.size+1)):=cell_of (h6.block 5 rfl) rfl
   obtain⟨sa,sc,h7⟩:=(h6.sel2 (R1:=[_,_,_,_]) [2,0,1,3] (by decide) rfl).segOpen
   have b6:(wr.alloc (.cells #[.slice A x.length cA] 61)).cell? ⟨sb,0,none⟩=some (.slice sa s.2.1.length sc):=cell_of (h7.block 1 rfl) rfl
   have H6:=Lib.hid h6
   unfold f1V at b4
   unfold f2V at b5
   clear h7 h6 hrr hbb hio hbody HF hk hx hv h0 i1 i4
   obtain⟨s1,s2,s3⟩:=s
   simp only at hops hhv i2 b3 b6 i3
   by_cases hs:s2=[]
   ·have hs0:s2.length=0:=by rw [hs];rfl
    have HE:Hid (rowD l x (s1,s2,s3)=nextD l.m.next x (s1,s2,s3)):=Lib.hid (by unfold rowD;rw [if_pos hs])
    have K:=Lib.hid (o_rnext (d:=s1) (segs:=s2) (hv:=s3) H6.out (gb:=w.heap.size+1) (lx:=w.heap.size) (b:=x) (A:=A) (cA:=cA) 3 4 (k+1+6) rfl rfl HBO.out (by omega) hx5 HNX.out)
    rw [← HE.out] at K
    rw [hs0] at b6
    clear hs hs0 HE H6 hops hhv i2 hx5 i3
    go_wp2_with fail
    refine K.out.mono ?_
    rintro e w3 ⟨rfl,g3⟩
    have G3:=Lib.hid g3
    clear g3 K b0 b1 b2 b3 b4 b5 b6
    by_cases hr:(rowD l x (s1,s2,s3)).2=0
    ·have HN2:=Lib.hid (HN.out.1 hr w3 G3.out)
     have HZ:=Lib.hid hr
     clear hr G3 HN
     rw [HZ.out]
     go_wp2_with fail
     go_roundw
     case rel=>(try rw [hw2]);exact HN2.out
     case measure=>(try rw [hw2]);exact meas_lt hlt'
    ·have q:((rowD l x (s1,s2,s3)).2 != 0)=true:=by rw [bne_iff_ne];exact hr
     have HX:=Lib.hid (HN.out.2 hr w3 G3.out)
     clear hr G3 HN
     go_wp2_with fail
     go_ret
     exact HX.out
   have hsp:0 < s2.length:=List.length_pos_iff.2 hs
   have qs:(((s2.length:Nat):Int) == 0)=false:=beq_eq_false_iff_ne.2 (by omega)
   have HFT:=Lib.hid (o_fits (H6.out).lgpA s3 x.length (by omega) (by omega) HSZ.out)
   by_cases hf:fitsL l s3 x.length=true
   ·have HE:Hid (rowD l x (s1,s2,s3)=(((dAppend s1 (newest s2) x).1,s2,s3+x.length),(dAppend s1 (newest s2) x).2)):=Lib.hid (by unfold rowD;rw [if_neg hs,if_pos hf])
    have h8:In F0 w0 ((wr.alloc (.cells #[.slice A x.length cA] 61)).setCell ⟨w.heap.size+1+1,0,none⟩ (.int .i64 ((s3+x.length:Nat):Int))) (RowsR pn lb bd sb (w.heap.size+1+1) l (s1,s2,s3+x.length) (Cells wr.heap.size #[.slice A x.length cA] 61::RwQ lb sb w.heap.size (w.heap.size+1) (w.heap.size+1+1) (w.heap.size+1+1+1) (w.heap.size+1+1+1+1) RB)):=H6.out.put 3 rfl 0 _
    have hfr:(wr.alloc (.cells #[.slice A x.length cA] 61)).frozen? ⟨w.heap.size+1+1,0,none⟩=false:=free_of (H6.out.block 3 rfl)
    have hcast:((s3+x.length:Nat):Int)=(s3:Int)+(x.length:Int):=Int.natCast_add _ _
    have hwr:IntKind.i64.wrap ((s3:Int)+(x.length:Int))=(s3:Int)+(x.length:Int):=IntWalk.i64_in _ (by omega)
    rw [hcast] at h8
    have HFIT:=Lib.hid hf
    rw [HE.out] at HN
    simp only at HN
    have HLY:=Lib.hid (fun w' d' (h':In F0 w0 w' (RowsR pn lb bd sb (w.heap.size+1+1) l (d',s2,s3+x.length) (Cells wr.heap.size #[.slice A x.length cA] 61::RwQ lb sb w.heap.size (w.heap.size+1) (w.heap.size+1+1) (w.heap.size+1+1+1) (w.heap.size+1+1+1+1) RB)))=>And.intro (show w'.cell? ⟨w.heap.size,0,none⟩=some (dptr lb) from cell_of (h'.block 8 rfl) rfl) (And.intro h'.lgpA.lg0 (And.intro (show w'.cell? ⟨w.heap.size+1+1+1+1,0,none⟩=some (f2V (w.heap.size+1)) from cell_of (h'.block 5 rfl) rfl) (show w'.cell? ⟨wr.heap.size,0,none⟩=some (.slice A x.length cA) from cell_of (h'.block 4 rfl) rfl))))
    have KN:=Lib.hid (fun w' (h':In F0 w0 w' (RowsR pn lb bd sb (w.heap.size+1+1) l (s1,s2,s3+x.length) (Cells wr.heap.size #[.slice A x.length cA] 61::RwQ lb sb w.heap.size (w.heap.size+1) (w.heap.size+1+1) (w.heap.size+1+1+1) (w.heap.size+1+1+1+1) RB)))=>o_rname (h'.sel2 (R1:=[_,_,_,_]) [2,0,1,3] (by decide) rfl) (gb:=w.heap.size+1) 6 rfl hs (Nat.le_trans i2 (by decide)) (fun y hy=>by have:=i3 y hy;have:=HNX.out;omega))
    have KA:=Lib.hid (fun w' (h':In F0 w0 w' (RowsR pn lb bd sb (w.heap.size+1+1) l (s1,s2,s3+x.length) (Cells wr.heap.size #[.slice A x.length cA] 61::RwQ lb sb w.heap.size (w.heap.size+1) (w.heap.size+1+1) (w.heap.size+1+1+1) (w.heap.size+1+1+1+1) RB)))=>o_dappend h' 1 rfl (by simp only;omega) (newest s2) (segName_size _) (k+1+6+4) (by omega) HBO.out (by omega))
    obtain⟨y0,y1,y2,y3⟩:=HLY.out _ s1 h8
    have H8:=Lib.hid h8
    have HC:=Lib.hid hcast
    unfold f2V at y2 HLY
    clear hs hsp hf h8 hops hhv i2 hx5 i3 H6 hcast
    go_wp2_with fail
    refine HFT.out.mono ?_
    rintro e w4 ⟨rfl,rfl⟩
    rw [HFIT.out]
    clear HFT
    go_wp2_with fail
    go_region_held3 (fun w'=>w'.cell? ⟨w.heap.size,0,none⟩=some (dptr lb)∧w'.cell? ⟨lb,0,none⟩=some (dptr bd)∧w'.cell? ⟨w.heap.size+1+1+1+1,0,none⟩=some (.func (.func 246) #[] #[.pointer (some ⟨w.heap.size+1,0,none⟩)])∧w'.cell? ⟨wr.heap.size,0,none⟩=some (.slice A x.length cA)) (first | exact⟨hz1,hz2,hz3,hz4⟩ | exact⟨y0,y1,y2,y3⟩ | go_keep)
     (first
      | (go_at_call 246;refine (KN.out _ (H8.out.drewN _)).mono ?_;rintro e w4 ⟨rfl,g1⟩;have g2:=g1.sel2 (R1:=[_,_,_,_]) [1,2,0,3] (by decide) rfl;obtain⟨hz1,hz2,hz3,hz4⟩:=HLY.out w4 s1 g2;have K1:=Lib.hid (KA.out w4 g2);clear g1 g2)
      | (go_at_call 114;refine K1.out.mono ?_;rintro e w5 ⟨rfl,g3⟩;obtain⟨hz1,hz2,hz3,hz4⟩:=HLY.out w5 (dAppend s1 (newest s2) x).1 g3;have G3:=Lib.hid g3;clear g3))
    clear KN KA K1 H8 HLY y0 y1 y2 y3 hz1 hz2 hz3 hz4 b0 b1 b2 b3 b4 b5 b6 hfr
    by_cases hr:(dAppend s1 (newest s2) x).2=0
    ·have HN2:=Lib.hid (HN.out.1 hr _ G3.out)
     have HZ:=Lib.hid hr
     clear hr G3 HN
     rw [HZ.out]
     go_wp2_with fail
     go_roundw
     case rel=>(try rw [hw2]);exact HN2.out
     case measure=>(try rw [hw2]);exact meas_lt hlt'
    ·have q:((dAppend s1 (newest s2) x).2 != 0)=true:=by rw [bne_iff_ne];exact hr
     have HX:=Lib.hid (HN.out.2 hr _ G3.out)
     clear hr G3 HN
     go_wp2_with fail
     go_ret
     exact HX.out
   ·have hf':fitsL l s3 x.length=false:=by simpa using hf
    have HE:Hid (rowD l x (s1,s2,s3)=thenD (syncNew (s1,s2,s3)) (nextD l.m.next x)):=Lib.hid (by unfold rowD;rw [if_neg hs,if_neg hf];rfl)
    have g9:=H6.out.cells #[.func (.func 247) #[] #[.pointer (some ⟨w.heap.size,0,none⟩),.pointer (some ⟨w.heap.size+1+1+1+1,0,none⟩)],.func (.func 248) #[] #[.pointer (some ⟨w.heap.size+1+1+1,0,none⟩),.pointer (some ⟨wr.heap.size,0,none⟩)]] 72
    simp only [World.size_alloc] at g9
    have K:=Lib.hid (row_all (s:=(s1,s2,s3)) (x:=x) (A:=A) (cA:=cA) hs hops i2 i3 HNX.out hx5 3 4 1 2 0 (k+1+6) rfl rfl rfl rfl rfl HBO.out _ rfl g9)
    rw [← HE.out] at K
    have HFIT:=Lib.hid hf'
    clear hs hsp hf hf' hops hhv i2 hx5 i3 H6 g9 HE
    go_wp2_with fail
    refine HFT.out.mono ?_
    rintro e w4 ⟨rfl,rfl⟩
    rw [HFIT.out]
    clear HFT
    go_wp2_with fail
    refine K.out.mono ?_
    rintro e w3 ⟨rfl,g3⟩
    have G3:=Lib.hid g3
    clear g3 K b0 b1 b2 b3 b4 b5 b6
    by_cases hr:(rowD l x (s1,s2,s3)).2=0
    ·have HN2:=Lib.hid (HN.out.1 hr w3 G3.out)
     have HZ:=Lib.hid hr
     clear hr G3 HN
     rw [HZ.out]
     go_wp2_with fail
     go_roundw
     case rel=>(try rw [hw2]);exact HN2.out
     case measure=>(try rw [hw2]);exact meas_lt hlt'
    ·have q:((rowD l x (s1,s2,s3)).2 != 0)=true:=by rw [bne_iff_ne];exact hr
     have HX:=Lib.hid (HN.out.2 hr w3 G3.out)
     clear hr G3 HN
     go_wp2_with fail
     go_ret
     exact HX.out
  ·have hge:(bs.length:Int)≤(k:Int):=Int.ofNat_le.2 (Nat.le_of_not_lt hlt)
   have hkl:bs.take k=bs:=List.take_of_length_le (Nat.le_of_not_lt hlt)
   rw [hkl] at h0
   obtain⟨i1,i2,i3,i4⟩:=hI
   obtain⟨s1,s2,s3⟩:=s
   simp only at i1 i2 i3
   have hops:s1.ops≤99980000:=by have:=HO.out;omega
   obtain⟨sa,sc,h7⟩:=(hio.sel2 (R1:=[_,_,_,_]) [2,0,1,3] (by decide) rfl).segOpen
   have b6:wr.cell? ⟨sb,0,none⟩=some (.slice sa s2.length sc):=cell_of (h7.block 1 rfl) rfl
   have b1:wr.cell? ⟨w.heap.size+1,0,none⟩=some (.pointer (some ⟨sb,0,none⟩)):=cell_of (hio.block 6 rfl) rfl
   have b4:wr.cell? ⟨w.heap.size+1+1+1,0,none⟩=some (f1V (w.heap.size+1) w.heap.size (w.heap.size+1+1)):=cell_of (hio.block 5 rfl) rfl
   have HLY:=Lib.hid (fun w' t (h':In F0 w0 w' (RowsR pn lb bd sb (w.heap.size+1+1) l t (RwQ lb sb w.heap.size (w.heap.size+1) (w.heap.size+1+1) (w.heap.size+1+1+1) (w.heap.size+1+1+1+1) RB)))=>And.intro (show w'.cell? ⟨w.heap.size,0,none⟩=some (dptr lb) from cell_of (h'.block 7 rfl) rfl) (And.intro h'.lgpA.lg0 (show w'.cell? ⟨w.heap.size+1+1+1+1,0,none⟩=some (f2V (w.heap.size+1)) from cell_of (h'.block 4 rfl) rfl)))
   have KN:=Lib.hid (fun w' t (h':In F0 w0 w' (RowsR pn lb bd sb (w.heap.size+1+1) l t (RwQ lb sb w.heap.size (w.heap.size+1) (w.heap.size+1+1) (w.heap.size+1+1+1) (w.heap.size+1+1+1+1) RB))) (hne:t.2.1≠[]) (hl:t.2.1.length≤64) (hlt:∀ y∈t.2.1,y < l.m.next+64)=>o_rname (h'.sel2 (R1:=[_,_,_,_]) [2,0,1,3] (by decide) rfl) (gb:=w.heap.size+1) 5 rfl hne (Nat.le_trans hl (by decide)) (fun y hy=>by have:=hlt y hy;have:=HNX.out;omega))
   have KA:=Lib.hid (fun w' t (h':In F0 w0 w' (RowsR pn lb bd sb (w.heap.size+1+1) l t (RwQ lb sb w.heap.size (w.heap.size+1) (w.heap.size+1+1) (w.heap.size+1+1+1) (w.heap.size+1+1+1+1) RB))) (ho:t.1.ops≤99980010)=>o_dsync h' 1 rfl (Nat.le_trans ho (by decide)) (newest t.2.1) (segName_size _))
   unfold f2V at HLY
   unfold f1V at b4
   clear h7 hlt hk i1 i4
   by_cases hs:s2=[]
   ·have hs0:s2.length=0:=by rw [hs];rfl
    have HE:=Lib.hid (layD_nil (d:=d) (bs:=bs) h0 hs)
    have K:=Lib.hid (o_rnext (d:=s1) (segs:=s2) (hv:=s3) hio (gb:=w.heap.size+1) (lx:=w.heap.size) (b:=[]) (A:=none) (cA:=0) 2 3 4 rfl rfl rfl (by omega) (by decide) HNX.out)
    obtain⟨n1,n2,n3,n4,n5⟩:=nextD_inv (nx:=l.m.next) (b:=[]) (s:=(s1,s2,s3)) i2 i3
    obtain⟨r,hr0⟩:∃ r,nextD l.m.next [] (s1,s2,s3)=r:=⟨_,rfl⟩
    rw [hr0] at K n1 n2 n3 n5 HE
    rw [hs0] at b6
    have N1:Hid (r.1.1.ops≤99980010):=Lib.hid (by simp only at n1;omega)
    have N2:=Lib.hid (And.intro n2 n3)
    have N5:=Lib.hid n5
    clear hs hs0 hio hops i2 i3 h0 n1 n2 n3 n4 n5 hr0
    go_wp2_with fail
    refine K.out.mono ?_
    rintro e w3 ⟨rfl,g3⟩
    have G3:=Lib.hid g3
    clear g3 K b1 b4 b6
    by_cases hr:r.2=0
    ·have hne:=N5.out hr
     obtain⟨y0,y1,y2⟩:=HLY.out w3 r.1 G3.out
     have HZ:=Lib.hid hr
     have HNE:=Lib.hid hne
     have KNX:=Lib.hid (fun w' h'=>KN.out w' r.1 h' HNE.out N2.out.1 N2.out.2)
     have KAX:=Lib.hid (fun w' h'=>KA.out w' r.1 h' N1.out)
     have HH:=Lib.hid (fun n=>G3.out.drewN n)
     have RR:=Lib.hid (show layD l bs d=syncNew r.1 by rw [HE.out,thenD_ok hr])
     clear hr hne N5 KN KA HE
     rw [HZ.out]
     go_wp2_with fail
     go_region_held3 (fun w'=>w'.cell? ⟨w.heap.size,0,none⟩=some (dptr lb)∧w'.cell? ⟨lb,0,none⟩=some (dptr bd)∧w'.cell? ⟨w.heap.size+1+1+1+1,0,none⟩=some (.func (.func 246) #[] #[.pointer (some ⟨w.heap.size+1,0,none⟩)])) (first | exact⟨hz1,hz2,hz3⟩ | exact⟨y0,y1,y2⟩ | go_keep)
      (first
       | (go_at_call 246;refine (KNX.out _ (HH.out _)).mono ?_;rintro e w4 ⟨rfl,g1⟩;have g2:=g1.sel2 (R1:=[_,_,_,_]) [1,2,0,3] (by decide) rfl;obtain⟨hz1,hz2,hz3⟩:=HLY.out w4 r.1 g2;have K1:=Lib.hid (KAX.out w4 g2);clear g1 g2)
       | (go_at_call 88;refine K1.out.mono ?_;rintro e w5 ⟨rfl,g3⟩;obtain⟨hz1,hz2,hz3⟩:=HLY.out w5 (syncNew r.1).1 g3;have G5:=Lib.hid g3;clear g3))
     all_goals
      go_wp2_with fail
      go_ret
      exact rw_done (d:=d) (bs:=bs) RR.out G5.out
    ·have q:(r.2 != 0)=true:=by rw [bne_iff_ne];exact hr
     have HX:=Lib.hid (rw_done (d:=d) (bs:=bs) (by rw [HE.out,thenD_err hr]) G3.out)
     clear hr G3 HE HLY KN KA
     go_wp2_with fail
     go_ret
     exact HX.out
   ·have hsp:0 < s2.length:=List.length_pos_iff.2 hs
    have qs:(((s2.length:Nat):Int) == 0)=false:=beq_eq_false_iff_ne.2 (by omega)
    have RR:=Lib.hid (layD_some (d:=d) (bs:=bs) h0 hs)
    have HH:=Lib.hid (fun n=>hio.drewN n)
    have HNE:=Lib.hid hs
    have N2:=Lib.hid (And.intro i2 i3)
    have N1:=Lib.hid (Nat.le_trans hops (by decide:99980000≤99980010))
    have KNX:=Lib.hid (fun w' h'=>KN.out w' (s1,s2,s3) h' HNE.out N2.out.1 N2.out.2)
    have KAX:=Lib.hid (fun w' h'=>KA.out w' (s1,s2,s3) h' N1.out)
    obtain⟨y0,y1,y2⟩:=HLY.out wr (s1,s2,s3) hio
    clear hs hsp hio hops i2 i3 h0 KN KA b4
    go_wp2_with fail
    go_region_held3 (fun w'=>w'.cell? ⟨w.heap.size,0,none⟩=some (dptr lb)∧w'.cell? ⟨lb,0,none⟩=some (dptr bd)∧w'.cell? ⟨w.heap.size+1+1+1+1,0,none⟩=some (.func (.func 246) #[] #[.pointer (some ⟨w.heap.size+1,0,none⟩)])) (first | exact⟨hz1,hz2,hz3⟩ | exact⟨y0,y1,y2⟩ | go_keep)
     (first
      | (go_at_call 246;refine (KNX.out _ (HH.out _)).mono ?_;rintro e w4 ⟨rfl,g1⟩;have g2:=g1.sel2 (R1:=[_,_,_,_]) [1,2,0,3] (by decide) rfl;obtain⟨hz1,hz2,hz3⟩:=HLY.out w4 (s1,s2,s3) g2;have K1:=Lib.hid (KAX.out w4 g2);clear g1 g2)
      | (go_at_call 88;refine K1.out.mono ?_;rintro e w5 ⟨rfl,g3⟩;obtain⟨hz1,hz2,hz3⟩:=HLY.out w5 (syncNew (s1,s2,s3)).1 g3;have G5:=Lib.hid g3;clear g3))
    all_goals
     go_wp2_with fail
     go_ret
     exact rw_done (d:=d) (bs:=bs) RR.out G5.out
end
theorem thenD_cases {σ:Type} {P:σ→Prop} {r:σ×Int} {f:σ→σ×Int} (h:P r.1) (hf:r.2=0→P (f r.1).1):P (thenD r f).1:=by
 unfold thenD;split
 ·rename_i e;exact hf e
 ·exact h
theorem rows_RwI {l:LogD} {d0:DiskD}:∀ (bs:List (List UInt8)) (k:Nat) (s:SLN),RwI l d0 k s→(∀ b∈bs,b.length≤5000)→∃ k',k'≤k+bs.length∧RwI l d0 k' (rowsD l bs s).1
 | [],k,s,h,_=>⟨k,Nat.le_refl _,h⟩
 | b::bs,k,s,h,hb=>by
  have h1:=h.row (b:=b) (hb b (by simp))
  have e:rowsD l (b::bs) s=thenD (rowD l b s) (rowsD l bs):=rfl
  rw [e]
  by_cases hz:(rowD l b s).2=0
  ·rw [thenD_ok hz]
   obtain⟨k',h2,h3⟩:=rows_RwI bs (k+1) _ h1 (fun x hx=>hb x (by simp [hx]))
   exact⟨k',by simp only [List.length_cons];omega,h3⟩
  ·rw [thenD_err hz]
   exact⟨k+1,by simp only [List.length_cons];omega,h1⟩
structure LayOk (l:LogD) (d0:DiskD) (n:Nat) (s:SLN):Prop where
 ops:s.1.ops≤d0.ops+3 * n+3
 len:s.2.1.length≤64
 lt:∀ x∈s.2.1,x < l.m.next+64
theorem layD_ok {l:LogD} {d:DiskD} {bs:List (List UInt8)} (hb:∀ b∈bs,b.length≤5000):LayOk l d bs.length (layD l bs d).1:=by
 obtain⟨k,hk,h1,h2,h3,h4⟩:=rows_RwI (l:=l) (d0:=d) bs 0 (d,[],0) ⟨by simp,by simp,by simp,by simp⟩ hb
 unfold layD
 have hs:LayOk l d bs.length (rowsD l bs (d,[],0)).1:=⟨by omega,h2,h3⟩
 have h5:((thenD (rowsD l bs (d,[],0)) (fun s=>if s.2.1=[] then nextD l.m.next [] s else (s,0))).1.1.ops≤d.ops+3 * bs.length+2)∧(thenD (rowsD l bs (d,[],0)) (fun s=>if s.2.1=[] then nextD l.m.next [] s else (s,0))).1.2.1.length≤64∧∀ x∈(thenD (rowsD l bs (d,[],0)) (fun s=>if s.2.1=[] then nextD l.m.next [] s else (s,0))).1.2.1,x < l.m.next+64:=by
  refine thenD_cases (P:=fun s:SLN=>s.1.ops≤d.ops+3 * bs.length+2∧s.2.1.length≤64∧∀ x∈s.2.1,x < l.m.next+64) ⟨by omega,h2,h3⟩ (fun _=>?_)
  split
  ·obtain⟨n1,n2,n3,_,_⟩:=nextD_inv (nx:=l.m.next) (b:=[]) h2 h3
   exact⟨by omega,n2,n3⟩
  ·exact⟨by simp only;omega,h2,h3⟩
 refine thenD_cases (P:=fun s:SLN=>LayOk l d bs.length s) ⟨by omega,h5.2.1,h5.2.2⟩ (fun _=>?_)
 have:=dSync_ops (thenD (rowsD l bs (d,[],0)) (fun s=>if s.2.1=[] then nextD l.m.next [] s else (s,0))).1.1 (newest (thenD (rowsD l bs (d,[],0)) (fun s=>if s.2.1=[] then nextD l.m.next [] s else (s,0))).1.2.1)
 exact⟨by simp only;omega,h5.2.1,h5.2.2⟩
structure SwT where
 d:DiskD
 segs:List Nat
 on:Bool
 l:LogD
def swLay (bs:List (List UInt8)) (l:LogD) (t:SwT):SwT×Int:=(⟨(layD l bs t.d).1.1,(layD l bs t.d).1.2.1,t.on,t.l⟩,(layD l bs t.d).2)
def swSet (ver:Nat) (l:LogD) (t:SwT):SwT×Int:=(⟨(adoptL (swapIn ver l t.segs) (t.d,l)).1.1,t.segs,(adoptL (swapIn ver l t.segs) (t.d,l)).2.1,(adoptL (swapIn ver l t.segs) (t.d,l)).1.2⟩,(adoptL (swapIn ver l t.segs) (t.d,l)).2.2)
def swapT (ver:Nat) (bs:List (List UInt8)) (l:LogD) (d:DiskD):SwT×Int:=foldD [swLay bs l,swSet ver l] ⟨d,[],false,l⟩
def swapEnd (l:LogD) (r:SwT×Int):DL×Int:=
 if r.2=0 then ((removeD l.m.segs r.1.d,r.1.l),0) else if r.1.on then ((r.1.d,r.1.l),r.2) else ((dropD r.1.segs r.1.d,r.1.l),r.2)
theorem commitD_on {m:ManD} {d:DiskD} (h:(commitD m d).2.2=0):(commitD m d).2.1=true:=by
 unfold commitD at h ⊢
 split at h
 ·simp at h
 split at h
 ·rename_i h1 h2;exact absurd h h2
 ·rename_i h1 h2;rw [if_neg h1,if_neg h2]
theorem swapT_eq (ver:Nat) (bs:List (List UInt8)) (l:LogD) (d:DiskD):swapT ver bs l d=if (layD l bs d).2≠0 then (⟨(layD l bs d).1.1,(layD l bs d).1.2.1,false,l⟩,(layD l bs d).2) else swSet ver l ⟨(layD l bs d).1.1,(layD l bs d).1.2.1,false,l⟩:=by
 have e:swapT ver bs l d=thenD (thenD ((⟨d,[],false,l⟩:SwT),(0:Int)) (swLay bs l)) (swSet ver l):=rfl
 rw [e,thenD_ok (r:=((⟨d,[],false,l⟩:SwT),(0:Int))) rfl]
 by_cases h:(layD l bs d).2=0
 ·rw [if_neg (by simp [h]),thenD_ok (r:=swLay bs l ⟨d,[],false,l⟩) h];rfl
 ·rw [if_pos h,thenD_err (r:=swLay bs l ⟨d,[],false,l⟩) h];rfl
theorem swapL_end (ver:Nat) (bs:List (List UInt8)) (s:DL) (h:(settleL s).2=0):swapL ver bs s=swapEnd (settleL s).1.2 (swapT ver bs (settleL s).1.2 (settleL s).1.1):=by
 unfold swapL
 simp only
 rw [if_neg (by simp [h])]
 by_cases h2:(layD (settleL s).1.2 bs (settleL s).1.1).2=0
 ·have e1:=swapT_eq ver bs (settleL s).1.2 (settleL s).1.1
  rw [if_neg (by simp [h2])] at e1
  rw [e1,if_neg (by simp [h2])]
  rfl
 ·have e1:=swapT_eq ver bs (settleL s).1.2 (settleL s).1.1
  rw [if_pos h2] at e1
  rw [e1,if_pos h2]
  unfold swapEnd
  rw [if_neg h2]
  rfl
theorem swapT_on {ver:Nat} {bs:List (List UInt8)} {l:LogD} {d:DiskD} (h:(swapT ver bs l d).2=0):(swapT ver bs l d).1.on=true:=by
 rw [swapT_eq] at h ⊢
 by_cases h2:(layD l bs d).2=0
 ·rw [if_neg (by simp [h2])] at h ⊢
  exact commitD_on h
 ·rw [if_pos h2] at h;exact absurd h h2
theorem swapT_ops {ver:Nat} {bs:List (List UInt8)} {l:LogD} {d:DiskD} (hb:∀ b∈bs,b.length≤5000):(swapT ver bs l d).1.d.ops≤d.ops+3 * bs.length+8∧(swapT ver bs l d).1.segs.length≤64∧∀ x∈(swapT ver bs l d).1.segs,x < l.m.next+64:=by
 obtain⟨h1,h2,h3⟩:=layD_ok (l:=l) (d:=d) hb
 rw [swapT_eq]
 split
 ·exact⟨by simp only;omega,h2,h3⟩
 ·have:=commitD_ops (swapIn ver l (layD l bs d).1.2.1) (layD l bs d).1.1
  exact⟨by show (commitD (swapIn ver l (layD l bs d).1.2.1) (layD l bs d).1.1).1.ops≤_;omega,h2,h3⟩
theorem swapT_off {ver:Nat} {bs:List (List UInt8)} {l:LogD} {d:DiskD} (h:(swapT ver bs l d).1.on=false):(swapT ver bs l d).1.l=l:=by
 rw [swapT_eq] at h ⊢
 split at h
 ·rename_i h2;rw [if_pos h2]
 ·rename_i h2;rw [if_neg h2]
  show (if (commitD (swapIn ver l (layD l bs d).1.2.1) (layD l bs d).1.1).2.1 then _ else l)=l
  have h':(commitD (swapIn ver l (layD l bs d).1.2.1) (layD l bs d).1.1).2.1=false:=h
  rw [h'];rfl
section
variable {F0:List Nat} {w0 w:World} {R:List Asrt} {pn:Value} {bd lb sb:Nat} {d:DiskD} {l:LogD}
theorem In.midL {X A B:List Asrt} (h:In F0 w0 w (X++(A++(B++R)))):In F0 w0 w (X++(B++(A++R))):=by
 refine h.perm (List.Perm.append_left X ?_)
 rw [← List.append_assoc,← List.append_assoc]
 exact List.perm_append_comm.append_right R
theorem o_swap1 {bs:List (List UInt8)} {vs:List Value} {a:Option Addr} {c lx bx ty:Nat} (hvs:vs.length=bs.length) (h:In F0 w0 w (Cells lx #[dptr lb] 78::Cells bx #[.slice a bs.length c] ty::LgP pn lb bd l::DkA bd d::SegA sb []::RowA 61 1 (.slice a bs.length c) bs.length vs::(bodB vs bs++R))) (hl:LgOk l) (ho:d.ops≤99900000) (hb5:∀ b∈bs,b.length≤5000) (hn:bs.length≤1000) :
  Calls Tryz.prog 209 #[.pointer (some ⟨lx,0,none⟩),.pointer (some ⟨bx,0,none⟩),.pointer (some ⟨sb,0,none⟩)] w fun e w'=>e=.returned (.int .i64 (layD l bs d).2)∧In F0 w0 w' (Cells lx #[dptr lb] 78::Cells bx #[.slice a bs.length c] ty::LgP pn lb bd l::DkA bd (layD l bs d).1.1::SegA sb (layD l bs d).1.2.1::RowA 61 1 (.slice a bs.length c) bs.length vs::(bodB vs bs++R)):=by
 have y0:w.cell? ⟨lx,0,none⟩=some (dptr lb):=cell_of (h.block 0 rfl) rfl
 have y1:w.cell? ⟨bx,0,none⟩=some (.slice a bs.length c):=cell_of (h.block 1 rfl) rfl
 have h2:In F0 w0 w (LgP pn lb bd l::DkA bd d::SegA sb []::RowA 61 1 (.slice a bs.length c) bs.length vs::(bodB vs bs++(Cells lx #[dptr lb] 78::Cells bx #[.slice a bs.length c] ty::R))):=
  In.midL (X:=[_,_,_,_]) (A:=[_,_]) (h.sel2 (R1:=[_,_,_,_,_,_]) [2,3,4,5,0,1] (by decide) rfl)
 have K:=Lib.hid (o_rows hvs h2 hl ho hb5 hn)
 have HB:Hid (∀ w',In F0 w0 w' (LgP pn lb bd l::DkA bd (layD l bs d).1.1::SegA sb (layD l bs d).1.2.1::RowA 61 1 (.slice a bs.length c) bs.length vs::(bodB vs bs++(Cells lx #[dptr lb] 78::Cells bx #[.slice a bs.length c] ty::R)))→In F0 w0 w' (Cells lx #[dptr lb] 78::Cells bx #[.slice a bs.length c] ty::LgP pn lb bd l::DkA bd (layD l bs d).1.1::SegA sb (layD l bs d).1.2.1::RowA 61 1 (.slice a bs.length c) bs.length vs::(bodB vs bs++R))):=Lib.hid fun w' h'=>
  (In.midL (X:=[_,_,_,_]) (B:=[_,_]) h').sel2 (R1:=[_,_,_,_,_,_]) [4,5,0,1,2,3] (by decide) rfl
 clear h h2 hl ho hb5 hn hvs
 go_enter Tryz.func209,Tryz.ntmps209
 go_wp2_with fail
 refine K.out.mono ?_
 rintro e w1 ⟨rfl,g1⟩
 have G:=Lib.hid (HB.out w1 g1)
 clear g1 K HB
 go_wp2_with fail
 go_ret
 exact⟨rfl,G.out⟩
def SwX (pn:Value) (lb bd sb cb:Nat) (l:LogD) (Q:List Asrt) (t:SwT):List Asrt:=
 if t.on then LgA lb bd t.l::DkA bd t.d::RowA 3 1 pn l.m.segs.length (segV l.m.segs)::Cells cb #[.bool true] 4::Q
 else LgP pn lb bd l::DkA bd t.d::SegA sb t.segs::Cells cb #[.bool false] 4::Q
theorem o_swap2 {ver lx vx cb:Nat} {ty1 ty2:Nat} {segs:List Nat} {Q:List Asrt} (j1 j2:Nat) (hj1:Q[j1]?=some (Cells lx #[dptr lb] ty1)) (hj2:Q[j2]?=some (Cells vx #[.int .i64 ver] ty2)) (h:In F0 w0 w (SwX pn lb bd sb cb l Q ⟨d,segs,false,l⟩)) (ho:d.ops≤99999000) (hs:segs.length≤64) (hnx:l.m.next≤1000000) :
  Calls Tryz.prog 211 #[.pointer (some ⟨lx,0,none⟩),.pointer (some ⟨vx,0,none⟩),.pointer (some ⟨sb,0,none⟩),.pointer (some ⟨cb,0,none⟩)] w fun e w'=>e=.returned (.int .i64 (swSet ver l ⟨d,segs,false,l⟩).2)∧In F0 w0 w' (SwX pn lb bd sb cb l Q (swSet ver l ⟨d,segs,false,l⟩).1):=by
 have h0:In F0 w0 w (LgP pn lb bd l::DkA bd d::SegA sb segs::Cells cb #[.bool false] 4::Q):=h
 obtain⟨sa,sc,h1⟩:=(h0.sel2 (R1:=[_,_,_,_]) [2,0,1,3] (by decide) rfl).segOpen
 have y0:w.cell? ⟨lx,0,none⟩=some (dptr lb):=cell_of (h1.block (j1+5) hj1) rfl
 have y1:w.cell? ⟨vx,0,none⟩=some (.int .i64 ver):=cell_of (h1.block (j2+5) hj2) rfl
 have y2:w.cell? ⟨sb,0,none⟩=some (.slice sa segs.length sc):=cell_of (h1.block 1 rfl) rfl
 have y3:w.cell? ⟨lb,3,none⟩=some (.int .i64 l.m.next):=h0.lgpA.lg3
 have hwr:IntKind.i64.wrap ((l.m.next:Int)+(segs.length:Int))=((l.m.next+segs.length:Nat):Int):=by rw [IntWalk.i64_in _ (by omega)];exact (Int.natCast_add _ _).symm
 have K:=Lib.hid (fun n=>o_adoptP (pn:=pn) (lb:=lb) (bd:=bd) (d:=d) (l:=l) (swapIn ver l segs) (A:=sa) (c:=sc) (R:=Cells sb #[.slice sa segs.length sc] 105::Cells cb #[.bool false] 4::Q) ((h1.sel2 (R1:=[_,_,_,_,_]) [2,3,0,1,4] (by decide) rfl).drewN n) (Nat.le_trans ho (by decide)) (Nat.le_trans hs (by decide)))
 have e2:swSet ver l ⟨d,segs,false,l⟩=(⟨(adoptL (swapIn ver l segs) (d,l)).1.1,segs,(adoptL (swapIn ver l segs) (d,l)).2.1,(adoptL (swapIn ver l segs) (d,l)).1.2⟩,(adoptL (swapIn ver l segs) (d,l)).2.2):=rfl
 rw [e2]
 have hsegs:(swapIn ver l segs).segs=segs:=rfl
 unfold AdoptPostP at K
 generalize hr:adoptL (swapIn ver l segs) (d,l)=r at *
 obtain⟨⟨d2,l2⟩,on,re⟩:=r
 simp only at K ⊢
 have hma:manAgg (swapIn ver l segs) sa sc=.agg #[.int .i64 ver,.int .i64 ((l.m.next+segs.length:Nat):Int),.slice sa segs.length sc]:=rfl
 rw [hma] at K
 have HSW:Hid (∀ w',(on=true→In F0 w0 w' (LgA lb bd l2::DkA bd d2::RowA 3 1 pn l.m.segs.length (segV l.m.segs)::Cells sb #[.slice sa segs.length sc] 105::Cells cb #[.bool false] 4::Q)) →
   (on=false→In F0 w0 w' (LgP pn lb bd l::DkA bd d2::SegR sa sc segs::Cells sb #[.slice sa segs.length sc] 105::Cells cb #[.bool false] 4::Q))→(w'.frozen? ⟨cb,0,none⟩=false∧w'.cell? ⟨cb,0,none⟩=some (.bool false))∧In F0 w0 (w'.setCell ⟨cb,0,none⟩ (.bool on)) (SwX pn lb bd sb cb l Q ⟨d2,segs,on,l2⟩)):=Lib.hid fun w' h1 h2=>by
  cases on with
  | true=>
   have h3:=h1 rfl
   exact⟨⟨free_of (h3.block 4 rfl),cell_of (h3.block 4 rfl) rfl⟩,(h3.put 4 rfl 0 (.bool true)).sel2 (R1:=[_,_,_,_,_]) [0,1,2,4] (by decide) rfl⟩
  | false=>
   have h3:=h2 rfl
   refine⟨⟨free_of (h3.block 4 rfl),cell_of (h3.block 4 rfl) rfl⟩,?_⟩
   have h4:=((h3.put 4 rfl 0 (.bool false)).sel2 (R1:=[_,_,_,_,_]) [2,3,0,1,4] (by decide) rfl).segClose
   exact h4.sel2 (R1:=[_,_,_,_]) [1,2,0,3] (by decide) rfl
 clear h h0 h1 ho hs hnx e2 hsegs hr hma
 go_enter Tryz.func211,Tryz.ntmps211
 go_wp2_with fail
 refine n_start 12 (fun w'=>w'.cell? ⟨lx,0,none⟩=some (dptr lb)∧w'.cell? ⟨vx,0,none⟩=some (.int .i64 ver)∧w'.cell? ⟨sb,0,none⟩=some (.slice sa segs.length sc)∧w'.cell? ⟨lb,3,none⟩=some (.int .i64 l.m.next)) (by kernel_rfl) ⟨y0,y1,y2,y3⟩ (fun hS=>?_)
 refine n_take (i:=0) (v:=?_) rfl (by kernel_rfl) (fun _ _ _ h=>h) (by rfl) ?_ hS ?_
 rotate_left
 ·(intro w hSw;(try dsimp only at hSw);go_simp;try with_reducible rfl)
 try simp only [Act.put,List.setIfInBounds_toArray,List.set_cons_zero,List.set_cons_succ]
 refine n_take (i:=1) (v:=?_) rfl (by kernel_rfl) (fun _ _ _ h=>h) (by rfl) ?_ hS ?_
 rotate_left
 ·(intro w hSw;(try dsimp only at hSw);go_simp;try with_reducible rfl)
 try simp only [Act.put,List.setIfInBounds_toArray,List.set_cons_zero,List.set_cons_succ]
 refine n_take (i:=2) (v:=?_) rfl (by kernel_rfl) (fun _ _ _ h=>h) (by rfl) ?_ hS ?_
 rotate_left
 ·(intro w hSw;(try dsimp only at hSw);go_simp;try with_reducible rfl)
 try simp only [Act.put,List.setIfInBounds_toArray,List.set_cons_zero,List.set_cons_succ]
 refine n_take (i:=3) (v:=?_) rfl (by kernel_rfl) (fun _ _ _ h=>h) (by rfl) ?_ hS ?_
 rotate_left
 ·(intro w hSw;(try dsimp only at hSw);go_simp;try with_reducible rfl)
 try simp only [Act.put,List.setIfInBounds_toArray,List.set_cons_zero,List.set_cons_succ]
 refine n_take (i:=4) (v:=?_) rfl (by kernel_rfl) (fun _ _ _ h=>h) (by rfl) ?_ hS ?_
 rotate_left
 ·(intro w hSw;(try dsimp only at hSw);go_simp;try with_reducible rfl)
 try simp only [Act.put,List.setIfInBounds_toArray,List.set_cons_zero,List.set_cons_succ]
 refine n_take (i:=5) (v:=?_) rfl (by kernel_rfl) (fun _ _ _ h=>h) (by rfl) ?_ hS ?_
 rotate_left
 ·(intro w hSw;(try dsimp only at hSw);go_simp;try with_reducible rfl)
 try simp only [Act.put,List.setIfInBounds_toArray,List.set_cons_zero,List.set_cons_succ]
 refine n_take (i:=6) (v:=?_) rfl (by kernel_rfl) (fun _ _ _ h=>h) (by rfl) ?_ hS ?_
 rotate_left
 ·(intro w hSw;(try dsimp only at hSw);go_simp;try with_reducible rfl)
 try simp only [Act.put,List.setIfInBounds_toArray,List.set_cons_zero,List.set_cons_succ]
 refine n_take (i:=7) (v:=?_) rfl (by kernel_rfl) (fun _ _ _ h=>h) (by rfl) ?_ hS ?_
 rotate_left
 ·(intro w hSw;(try dsimp only at hSw);go_simp;try with_reducible rfl)
 try simp only [Act.put,List.setIfInBounds_toArray,List.set_cons_zero,List.set_cons_succ]
 refine n_take (i:=8) (v:=?_) rfl (by kernel_rfl) (fun _ _ _ h=>h) (by rfl) ?_ hS ?_
 rotate_left
 ·(intro w hSw;(try dsimp only at hSw);go_simp;try with_reducible rfl)
 try simp only [Act.put,List.setIfInBounds_toArray,List.set_cons_zero,List.set_cons_succ]
 refine n_take (i:=9) (v:=?_) rfl (by kernel_rfl) (fun _ _ _ h=>h) (by rfl) ?_ hS ?_
 rotate_left
 ·(intro w hSw;(try dsimp only at hSw);go_simp;try with_reducible rfl)
 try simp only [Act.put,List.setIfInBounds_toArray,List.set_cons_zero,List.set_cons_succ]
 refine n_take (i:=10) (v:=?_) rfl (by kernel_rfl) (fun _ _ _ h=>h) (by rfl) ?_ hS ?_
 rotate_left
 ·(intro w hSw;(try dsimp only at hSw);go_simp;try with_reducible rfl)
 try simp only [Act.put,List.setIfInBounds_toArray,List.set_cons_zero,List.set_cons_succ]
 refine n_take (i:=11) (v:=?_) rfl (by kernel_rfl) (fun _ _ _ h=>h) (by rfl) ?_ hS ?_
 rotate_left
 ·(intro w hSw;(try dsimp only at hSw);go_simp;try with_reducible rfl)
 try simp only [Act.put,List.setIfInBounds_toArray,List.set_cons_zero,List.set_cons_succ]
 refine n_tail (by kernel_rfl) ?_
 refine e_pin (i:=12) rfl (by kernel_rfl) (fun K' hK=>?_)
 go_simp
 go_at_call 184
 refine (K.out 1).mono ?_
 rintro e w1 ⟨rfl,g1,g2⟩
 obtain⟨⟨f1,f2⟩,g3⟩:=HSW.out w1 g1 g2
 have G:=Lib.hid g3
 clear g1 g2 g3 K HSW hS
 refine hK.out _ _ trivial (fun _=>?_)
 clear hK K'
 try simp only [Act.put,List.setIfInBounds_toArray,List.set_cons_zero,List.set_cons_succ]
 refine e_take (i:=13) (v:=?_) rfl (by kernel_rfl) (fun _ _ _ h=>h) (by rfl) ?_ trivial ?_
 rotate_left
 ·(intro w hSw;go_simp;try with_reducible rfl)
 try simp only [Act.put,List.setIfInBounds_toArray,List.set_cons_zero,List.set_cons_succ]
 refine e_take (i:=14) (v:=?_) rfl (by kernel_rfl) (fun _ _ _ h=>h) (by rfl) ?_ trivial ?_
 rotate_left
 ·(intro w hSw;go_simp;try with_reducible rfl)
 try simp only [Act.put,List.setIfInBounds_toArray,List.set_cons_zero,List.set_cons_succ]
 refine e_take (i:=15) (v:=?_) rfl (by kernel_rfl) (fun _ _ _ h=>h) (by rfl) ?_ trivial ?_
 rotate_left
 ·(intro w hSw;go_simp;try with_reducible rfl)
 try simp only [Act.put,List.setIfInBounds_toArray,List.set_cons_zero,List.set_cons_succ]
 refine e_pin (i:=16) rfl (by kernel_rfl) (fun K' hK=>?_)
 go_simp
 refine hK.out _ _ trivial (fun _=>?_)
 clear hK K'
 try simp only [Act.put,List.setIfInBounds_toArray,List.set_cons_zero,List.set_cons_succ]
 refine e_last (i:=17) rfl (by kernel_rfl) (fun K' hK=>?_)
 go_simp
 refine hK.out _ _ ?_
 clear hK K'
 go_wp2_with fail
 go_ret
 exact⟨rfl,G.out⟩
end
section
variable {F0:List Nat} {w0 w:World} {R:List Asrt} {pn:Value} {bd lb sb:Nat} {d:DiskD} {l:LogD}
theorem swap_all {ver:Nat} {bs:List (List UInt8)} {vs:List Value} {a:Option Addr} {c lx vx bx cb fb:Nat} (hvs:vs.length=bs.length) (hl:LgOk l) (ho:d.ops≤99900000) (hb5:∀ b∈bs,b.length≤5000) (hn:bs.length≤1000)
  (fs:List (FuncId×Array Value)) (hfs:fs=[(209,#[.pointer (some ⟨lx,0,none⟩),.pointer (some ⟨bx,0,none⟩),.pointer (some ⟨sb,0,none⟩)]),(211,#[.pointer (some ⟨lx,0,none⟩),.pointer (some ⟨vx,0,none⟩),.pointer (some ⟨sb,0,none⟩),.pointer (some ⟨cb,0,none⟩)])])
  (h:In F0 w0 w (Cells fb (fs.map fnV).toArray 72::SwX pn lb bd sb cb l (Cells lx #[dptr lb] 78::Cells vx #[.int .i64 ver] 3::Cells bx #[.slice a bs.length c] 250::RowA 61 1 (.slice a bs.length c) bs.length vs::(bodB vs bs++R)) ⟨d,[],false,l⟩)) :
  Calls Tryz.prog 84 #[.slice (some ⟨fb,0,none⟩) 2 2] w fun e w'=>e=.returned (.int .i64 (swapT ver bs l d).2)∧In F0 w0 w' (SwX pn lb bd sb cb l (Cells lx #[dptr lb] 78::Cells vx #[.int .i64 ver] 3::Cells bx #[.slice a bs.length c] 250::RowA 61 1 (.slice a bs.length c) bs.length vs::(bodB vs bs++R)) (swapT ver bs l d).1):=by
 have hnx:l.m.next≤1000000:=(mayM_iff.1 hl.2.2).1.2.2.2.2.2
 have hent1:∀ args w',(callFunc 209 args).run Tryz.prog w'=.ok (.enter 209 args) w':=enters_of Tryz.func209 (by kernel_rfl) rfl
 have hent2:∀ args w',(callFunc 211 args).run Tryz.prog w'=.ok (.enter 211 args) w':=enters_of Tryz.func211 (by kernel_rfl) rfl
 have hlen:fs.length=2:=by rw [hfs];rfl
 obtain⟨q1,q2,q3⟩:=layD_ok (l:=l) (d:=d) hb5
 have key:=all_fn (F0:=F0) (w0:=w0) (w:=w) (fun k (t:SwT)=>(k=0→t=⟨d,[],false,l⟩)∧(k=1→t=(swLay bs l ⟨d,[],false,l⟩).1)) (SwX pn lb bd sb cb l (Cells lx #[dptr lb] 78::Cells vx #[.int .i64 ver] 3::Cells bx #[.slice a bs.length c] 250::RowA 61 1 (.slice a bs.length c) bs.length vs::(bodB vs bs++R))) fb 72 [swLay bs l,swSet ver l] fs (by rw [hlen];rfl) (by omega) ⟨d,[],false,l⟩ 2
  ⟨fun _=>rfl,fun h=>by omega⟩ (fun k f hf t hI=>by
   refine⟨fun h=>by omega,fun h=>?_⟩
   obtain rfl:k=0:=by omega
   cases hf
   obtain rfl:=hI.1 rfl
   rfl)
  (fun f hf=>by
   rw [hfs] at hf
   simp only [List.mem_cons,List.not_mem_nil,or_false] at hf
   rcases hf with rfl | rfl
   ·exact hent1
   ·exact hent2)
  (fun k f g hf hgg w' t hI h'=>by
   rw [hfs] at hf
   rcases k with _ | _ | k
   ·obtain rfl:=hI.1 rfl
    cases hf;cases hgg
    have h2:In F0 w0 w' (Cells fb (fs.map fnV).toArray 72::LgP pn lb bd l::DkA bd d::SegA sb []::Cells cb #[.bool false] 4::Cells lx #[dptr lb] 78::Cells vx #[.int .i64 ver] 3::Cells bx #[.slice a bs.length c] 250::RowA 61 1 (.slice a bs.length c) bs.length vs::(bodB vs bs++R)):=h'
    have h3:=In.midL (X:=[_,_,_,_,_,_]) (A:=[_,_,_]) (h2.sel2 (R1:=[_,_,_,_,_,_,_,_,_]) [5,7,1,2,3,8,0,4,6] (by decide) rfl)
    refine (o_swap1 (R:=Cells fb (fs.map fnV).toArray 72::Cells cb #[.bool false] 4::Cells vx #[.int .i64 ver] 3::R) hvs h3 hl ho hb5 hn).mono fun e w'' ⟨he,hw⟩=>⟨he,?_⟩
    have h4:=(In.midL (X:=[_,_,_,_,_,_]) (B:=[_,_,_]) hw).sel2 (R1:=[_,_,_,_,_,_,_,_,_]) [6,2,3,4,7,0,8,1,5] (by decide) rfl
    exact h4
   ·obtain rfl:=hI.2 rfl
    cases hf;cases hgg
    have h2:In F0 w0 w' (Cells fb (fs.map fnV).toArray 72::LgP pn lb bd l::DkA bd (layD l bs d).1.1::SegA sb (layD l bs d).1.2.1::Cells cb #[.bool false] 4::(Cells lx #[dptr lb] 78::Cells vx #[.int .i64 ver] 3::Cells bx #[.slice a bs.length c] 250::RowA 61 1 (.slice a bs.length c) bs.length vs::(bodB vs bs++R))):=h'
    have h3:In F0 w0 w' (SwX pn lb bd sb cb l (Cells fb (fs.map fnV).toArray 72::Cells lx #[dptr lb] 78::Cells vx #[.int .i64 ver] 3::Cells bx #[.slice a bs.length c] 250::RowA 61 1 (.slice a bs.length c) bs.length vs::(bodB vs bs++R)) ⟨(layD l bs d).1.1,(layD l bs d).1.2.1,false,l⟩):=h2.sel2 (R1:=[_,_,_,_,_]) [1,2,3,4,0] (by decide) rfl
    refine (o_swap2 (ver:=ver) (lx:=lx) (vx:=vx) 1 2 rfl rfl h3 (by omega) q2 hnx).mono fun e w'' ⟨he,hw⟩=>⟨he,?_⟩
    have he2:(swSet ver l ⟨(layD l bs d).1.1,(layD l bs d).1.2.1,false,l⟩)=swSet ver l (swLay bs l ⟨d,[],false,l⟩).1:=rfl
    rw [he2] at hw
    generalize (swSet ver l (swLay bs l ⟨d,[],false,l⟩).1).1=t2 at *
    unfold SwX at hw ⊢
    by_cases hon:t2.on=true
    ·rw [if_pos hon] at hw ⊢
     exact hw.sel2 (R1:=[_,_,_,_,_]) [4,0,1,2,3] (by decide) rfl
    ·rw [if_neg hon] at hw ⊢
     exact hw.sel2 (R1:=[_,_,_,_,_]) [4,0,1,2,3] (by decide) rfl
   ·simp at hf) h
 rw [hlen] at key
 exact key.mono fun e w' ⟨he,hw⟩=>⟨he,hw.drop⟩
end
end Go.Proofs.YtaopfagclnocdaaGreat
