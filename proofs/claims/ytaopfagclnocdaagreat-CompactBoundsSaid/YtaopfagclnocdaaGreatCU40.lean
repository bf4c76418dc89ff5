/- Rows.CompactBoundsSaid -/
import Derived.Test.YtaopfagclnocdaaGreatCU39
import Derived.Test.YtaopfagclnocdaaGreatCU37
import Derived.Deep.DeepCutAuto
namespace Go.Proofs.YtaopfagclnocdaaGreat
open Go.RowKit
set_option linter.unusedVariables false
set_option maxHeartbeats 64000000
set_option maxRecDepth 100000
theorem infoBytes:(Tryz.prog.info? 61).map (fun i=>(i.zero.map (fun z=>z.cells.size),i.size,i.bytes))=some (some 1,1,24):=by kernel_rfl
theorem bodB_snoc:∀ {vs:List Value} {bs:List (List UInt8)} (v:Value) (b:List UInt8),vs.length=bs.length→bodB (vs++[v]) (bs++[b])=bodB vs bs++[RowA 5 1 v b.length (u8s b)]
 | [],[],v,b,_=>rfl
 | [],_::_,_,_,h=>by simp at h
 | _::_,[],_,_,h=>by simp at h
 | x::vs,y::bs,v,b,h=>by
  simp only [List.cons_append,bodB]
  rw [bodB_snoc v b (by simpa using h)]
theorem removeD_ops:∀ (l:List Nat) (d:DiskD),(removeD l d).ops≤d.ops+l.length
 | [],d=>Nat.le_refl _
 | x::r,d=>by
  have h1:=removeD_ops r (dRemove d (segName x)).1
  have h2:=(dOps d (segName x) (segName x) [] 0).2.2.2.2.1
  simp only [removeD,List.length_cons];omega
theorem putErr_ok {f:FrD} (h:FrOk f):putErr f.kind f.ver f.body.length=0:=by
 obtain⟨h1,h2,h3⟩:=h
 unfold putErr
 rw [if_neg (by omega),if_neg (by omega)]
theorem putB_ok {f:FrD} (h:FrOk f):putB f.kind f.ver f.body=frBytes f:=by
 unfold putB;rw [if_pos (putErr_ok h)];rfl
theorem frB_len {f:FrD} (h:FrOk f):(frBytes f).length≤5000:=by
 obtain⟨h1,h2,h3⟩:=h
 rw [frBytes_length];show 16+f.body.length≤5000;omega
section
variable {F0:List Nat} {w0 w:World} {R:List Asrt} {pn:Value} {bd lb sb:Nat} {d:DiskD} {l:LogD}
theorem In.dropMid {X A:List Asrt} (h:In F0 w0 w (X++(A++R))):In F0 w0 w (X++R):=by
 have h1:In F0 w0 w (A++(X++R)):=by
  refine h.perm ?_
  rw [← List.append_assoc,← List.append_assoc]
  exact List.perm_append_comm.append_right R
 exact h1.right
abbrev SwL (bx vx lx lb bd ver:Nat) (l:LogD) (d:DiskD) (v:Value) (vs:List Value) (bss:List (List UInt8)) (R:List Asrt):List Asrt:=
 Cells bx #[v] 250::RowA 61 1 v vs.length vs::(bodB vs bss++([Cells vx #[.int .i64 ver] 3,Cells lx #[dptr lb] 78,LgA lb bd l,DkA bd d]++R))
def SwRel (bx vx lx lb bd ver:Nat) (l:LogD) (d:DiskD) (fs:List FrD) (F0:List Nat) (w0:World) (R:List Asrt) (i:Value) (wr:World):Prop:=
 ∃ (k:Nat) (v:Value) (vs:List Value),k≤fs.length∧i=.int .i64 k∧vs.length=k∧In F0 w0 wr (SwL bx vx lx lb bd ver l d v vs ((fs.take k).map frBytes) R)
theorem SwL.rest {bx vx lx ver:Nat} {v:Value} {vs:List Value} {bss:List (List UInt8)} (h:In F0 w0 w (SwL bx vx lx lb bd ver l d v vs bss R)):In F0 w0 w R:=
 (In.right (R1:=bodB vs bss) (h.drop.drop)).drop.drop.drop.drop
theorem sw_step {bx vx lx ver nb bb:Nat} {C C2:Array Value} {ty ty2:Nat} {v v1:Value} {vs:List Value} {fs:List FrD} {k:Nat} {f:FrD} {bss:List (List UInt8)} (hbss:bss=(fs.take k).map frBytes) (hf:fs[k]?=some f) (hvs:vs.length=k)
  (h:In F0 w0 w (Cells bb C2 ty2::RowA 5 1 v1 (frBytes f).length (u8s (frBytes f))::Cells nb C ty::Cells bx #[v] 250::RowA 61 1 v (vs++[v1]).length (vs++[v1])::(bodB vs bss++([Cells vx #[.int .i64 ver] 3,Cells lx #[dptr lb] 78,LgA lb bd l,DkA bd d]++R)))) :
  SwRel bx vx lx lb bd ver l d fs F0 w0 R (.int .i64 ((k:Int)+1)) w:=by
 subst hbss
 have hk:=(List.getElem?_eq_some_iff.1 hf).1
 refine⟨k+1,v,vs++[v1],hk,by rw [Int.natCast_add];rfl,by simp [hvs],?_⟩
 have h1:=h.sel2 (R1:=[_,_,_,_,_]) [3,4,1] (by decide) rfl
 have h2:=In.midL (X:=[_,_]) (A:=[_]) h1
 unfold SwL
 rw [List.take_add_one,hf]
 simp only [Option.toList_some,List.map_append,List.map_cons,List.map_nil]
 rw [bodB_snoc v1 (frBytes f) (by simp [hvs];omega),List.append_assoc]
 exact h2
def RmRel (lb bd:Nat) (l:LogD) (d:DiskD) (segs:List Nat) (Q:List Asrt) (F0:List Nat) (w0:World) (i:Value) (wr:World):Prop:=
 ∃ k:Nat,k≤segs.length∧i=.int .i64 k∧In F0 w0 wr (LgA lb bd l::DkA bd (removeD (segs.take k) d)::Q)
theorem rm_step {segs:List Nat} {k x:Nat} {Q:List Asrt} (hx:segs[k]?=some x) (h:In F0 w0 w (LgA lb bd l::DkA bd (dRemove (removeD (segs.take k) d) (segName x)).1::Q)):RmRel lb bd l d segs Q F0 w0 (.int .i64 ((k:Int)+1)) w:=by
 refine⟨k+1,(List.getElem?_eq_some_iff.1 hx).1,by rw [Int.natCast_add];rfl,?_⟩
 rw [List.take_add_one,hx]
 show In F0 w0 w (LgA lb bd l::DkA bd (removeD (segs.take k++[x]) d)::_)
 rw [removeD_snoc];exact h
theorem rm_ops {segs:List Nat} {k:Nat} (ho:d.ops≤99999000) (hs:segs.length≤100):(removeD (segs.take k) d).ops≤100000000:=by
 have:=removeD_ops (segs.take k) d
 rw [List.length_take] at this;omega
def FrU (F0:List Nat) (w0:World) (R:List Asrt) (a:Option Addr) (fs:List FrD):Prop:=∀ k f,fs[k]?=some f→∃ g o A c,a=some ⟨g,o,none⟩∧∀ w',In F0 w0 w' R→FrCell w' g (o+k * 3) f A c
def SwapPost (lb bd:Nat) (r:DL×Int) (F0:List Nat) (w0:World) (R:List Asrt) (e:Ending) (w':World):Prop:=
 e=.returned (.int .i64 r.2)∧In F0 w0 w' (LgA lb bd r.1.2::DkA bd r.1.1::R)
theorem swapL_err {ver:Nat} {bs:List (List UInt8)} {s:DL} (h:(settleL s).2≠0):swapL ver bs s=settleL s:=by
 unfold swapL;rw [if_pos h]
theorem post_of {r r':DL×Int} {e:Ending} {Y:List Asrt} (hr:r'=r) (he:e=.returned (.int .i64 r.2)) (h:In F0 w0 w (LgA lb bd r.1.2::DkA bd r.1.1::R)):SwapPost lb bd r' F0 w0 R e w:=by
 subst hr;exact⟨he,h⟩
theorem o_swap {fs:List FrD} {a:Option Addr} {c ver:Nat} (h:In F0 w0 w (LgA lb bd l::DkA bd d::R)) (hl:LgOk l) (ho:d.ops≤99000000) (hver:1≤ver∧ver≤3) (hv:FrU F0 w0 R a fs) (hok:∀ f∈fs,FrOk f) (hn:fs.length≤1000) :
  Calls Tryz.prog 153 #[dptr lb,.int .i64 ver,.slice a fs.length c] w (SwapPost lb bd (swapL ver (fs.map frBytes) (d,l)) F0 w0 R):=by
 have hmf:∀ (fn:Fn) (first cap:Array Value) (w:World),(Instr.makeFunc fn first cap).run Tryz.prog w=.ok (.func fn first cap) w:=fun _ _ _ _=>rfl
 have h1:=(((h.rownil 61 1).cells #[dptr lb] 78).cells #[.int .i64 ver] 3).cells #[.slice none 0 0] 250
 simp only [World.size_alloc] at h1
 have q1:decide ((ver:Int) < 1)=false:=decide_eq_false (by omega)
 have q2:decide ((3:Int) < (ver:Int))=false:=decide_eq_false (by omega)
 obtain⟨n0,hn0⟩:∃ n0,n0=w.heap.size:=⟨_,rfl⟩
 rw [← hn0] at h1
 have HR:Hid (SwRel (n0+1+1) (n0+1) n0 lb bd ver l d fs F0 w0 R (.int .i64 0) _):=Lib.hid ⟨0,.slice none 0 0,[],Nat.zero_le _,rfl,rfl,h1.sel2 (R1:=[_,_,_,_,_,_]) [0,3,1,2,4,5] (by decide) rfl⟩
 have HV:=Lib.hid hv
 have HOK:=Lib.hid hok
 have hnl:fs.length≤1000:=hn
 have HLO:=Lib.hid (And.intro hl ho)
 clear h h1 hl ho hv hok hn hver
 go_enter Tryz.func153,Tryz.ntmps153
 rw [hn0] at HR
 go_wp2_with fail
 go_loopw [29] (SwRel (w.heap.size+1+1) (w.heap.size+1) w.heap.size lb bd ver l d fs F0 w0 R) (fun k _=>fs.length - (intOf k).toNat)
 case atStart=>exact HR.out
 case round=>
  obtain⟨k,v,vs,hk,rfl,hvs,hio⟩:=hrel
  clear HR
  by_cases hlt:k < fs.length
  ·obtain⟨bss,hbss⟩:∃ bss,bss=(fs.take k).map frBytes:=⟨_,rfl⟩
   rw [← hbss] at hio
   obtain⟨f,hf⟩:∃ f,fs[k]?=some f:=⟨fs[k],List.getElem?_eq_getElem hlt⟩
   have hfo:=HOK.out f (List.mem_of_getElem? hf)
   obtain⟨g,o,A,cA,rfl,hfu⟩:=HV.out k f hf
   have hfc:=hfu wr (SwL.rest hio)
   have c0:=hfc.kind
   have c1:=hfc.ver
   have c2:=hfc.val
   have hlt':(k:Int) < (fs.length:Int):=Int.ofNat_lt.2 hlt
   have hw2:wrap64 ((k:Int)+1)=(k:Int)+1:=by unfold wrap64;omega
   have h2:=hio.cells #[.int .i64 f.kind,.int .i64 f.ver,.slice A f.body.length cA] 85
   have KP:=o_frput (c:=cA) (A:=A) h2 f.kind f.ver (body:=f.body) (Nat.le_trans hfo.3 (by decide)) (fun w' h'=>(hfu w' (SwL.rest h'.drop)).body)
   unfold PutPost at KP
   rw [putErr_ok hfo,putB_ok hfo] at KP
   have KP':=Lib.hid KP
   have HN:=Lib.hid (fun bb C2 ty2 v1 v w' h'=>sw_step (F0:=F0) (w0:=w0) (w:=w') (R:=R) (lb:=lb) (bd:=bd) (l:=l) (d:=d) (bx:=w.heap.size+1+1) (vx:=w.heap.size+1) (lx:=w.heap.size) (ver:=ver) (nb:=wr.heap.size) (bb:=bb) (C:=#[.int .i64 f.kind,.int .i64 f.ver,.slice A f.body.length cA]) (C2:=C2) (ty:=85) (ty2:=ty2) (v:=v) (v1:=v1) (vs:=vs) (fs:=fs) hbss hf hvs h')
   clear h2 KP hfc hfu hio hf hfo hk hlt hbss
   go_wp2_with fail
   refine KP'.out.mono ?_
   rintro e w1 ⟨v1,rfl,g1⟩
   obtain⟨F1,r1⟩:=g1.get 0 rfl
   obtain⟨a1,c1',rfl,-,-,-⟩:=r1.shape
   have y0:w1.cell? ⟨w.heap.size+1+1,0,none⟩=some v:=cell_of (g1.block 2 rfl) rfl
   obtain⟨F2,r2⟩:=g1.get 3 rfl
   obtain⟨a2,c2',rfl,-,-,-⟩:=r2.shape
   have g5:=g1.cells #[.slice a1 (frBytes f).length c1'] 61
   have G5:=Lib.hid g5
   have SB:=Lib.hid (Src.of_block (k:=1) (g5.block 0 rfl) rfl)
   have HX:Hid (∀ v' w5,In F0 w0 w5 ((Cells w1.heap.size #[.slice a1 (frBytes f).length c1'] 61::RowA 5 1 (.slice a1 (frBytes f).length c1') (frBytes f).length (u8s (frBytes f))::Cells wr.heap.size #[.int .i64 f.kind,.int .i64 f.ver,.slice A f.body.length cA] 85::SwL (w.heap.size+1+1) (w.heap.size+1) w.heap.size lb bd ver l d (.slice a2 vs.length c2') vs bss R).set 4 (RowA 61 1 v' (vs.length+1) (vs++[.slice a1 (frBytes f).length c1']))) →
    w5.frozen? ⟨w.heap.size+1+1,0,none⟩=false∧w5.cell? ⟨w.heap.size+1+1,0,none⟩=some (.slice a2 vs.length c2')∧SwRel (w.heap.size+1+1) (w.heap.size+1) w.heap.size lb bd ver l d fs F0 w0 R (.int .i64 ((k:Int)+1)) (w5.setCell ⟨w.heap.size+1+1,0,none⟩ v')):=Lib.hid fun v' w5 h5=>
     ⟨free_of (h5.block 3 rfl),cell_of (h5.block 3 rfl) rfl,HN.out _ _ _ _ _ _ (by
      have h6:=h5.put 3 rfl 0 v'
      rw [List.length_append]
      exact h6)⟩
   have HVS:Hid (vs.length≤1000):=Lib.hid (by omega)
   clear g1 g5 r1 r2 KP' HN hvs
   go_wp2_with (at_builtin;refine app_list rfl G5.out 4 rfl (.tmp 41) (.tmp 43) 250 (by rfl) Tryz.underlying250 infoBytes (by decide) (by decide) (by rfl) (by rfl) SB.out (fun u hu=>by simp at hu;subst hu;rfl) (Nat.le_trans (Nat.add_le_add_right HVS.out 1) (by decide)) ?_)
   intro v' w5 ho5 hg5
   obtain⟨F5,r5⟩:=ho5.get 4 rfl
   obtain⟨a5,c5',rfl,-,-,-⟩:=RowA.shape r5
   obtain⟨f5,c5,hr5⟩:=HX.out _ w5 ho5
   clear r5
   have HN2:=Lib.hid hr5
   clear ho5 hg5 hr5 G5 SB HX HVS
   go_wp2_with fail
   go_roundw
   case rel=>(try rw [hw2]);exact HN2.out
   case measure=>(try rw [hw2]);exact meas_lt hlt'
  ·have hge:(fs.length:Int)≤(k:Int):=Int.ofNat_le.2 (Nat.le_of_not_lt hlt)
   have hkl:fs.take k=fs:=List.take_of_length_le (Nat.le_of_not_lt hlt)
   rw [hkl] at hio
   obtain⟨bs,hbs⟩:∃ bs,bs=fs.map frBytes:=⟨_,rfl⟩
   rw [← hbs] at hio
   have HBS:=Lib.hid hbs
   have hb5:∀ b∈bs,b.length≤5000:=fun b hb=>by
    rw [hbs] at hb
    obtain⟨f,hf,rfl⟩:=List.mem_map.1 hb
    exact frB_len (HOK.out f hf)
   have hvb:vs.length=bs.length:=by rw [hbs,List.length_map];omega
   have hbn:bs.length≤1000:=by rw [hbs,List.length_map];exact hnl
   obtain⟨Fv,hrv⟩:=hio.get 1 rfl
   obtain⟨av,cv,rfl,-,-,-⟩:=RowA.shape hrv
   unfold SwL at hio
   rw [hvb] at hio
   have h3:In F0 w0 wr (LgA lb bd l::DkA bd d::Cells w.heap.size #[dptr lb] 78::Cells (w.heap.size+1) #[.int .i64 ver] 3::Cells (w.heap.size+1+1) #[.slice av bs.length cv] 250::RowA 61 1 (.slice av bs.length cv) bs.length vs::(bodB vs bs++R)):=(In.midL (X:=[_,_]) (B:=[_,_,_,_]) hio).sel2 (R1:=[_,_,_,_,_,_]) [4,5,3,2,0,1] (by decide) rfl
   have KS:=Lib.hid (o_settle h3 (Nat.le_trans HLO.out.2 (by decide)))
   have z0:wr.cell? ⟨w.heap.size,0,none⟩=some (dptr lb):=cell_of (h3.block 2 rfl) rfl
   have hlo1:=settleL_ok (s:=(d,l)) HLO.out.1
   have hop1:=settleL_ops (d,l)
   have hoo:=HLO.out.2
   by_cases hz:(settleL (d,l)).2=0
   ·have HSE:=Lib.hid (swapL_end ver bs (d,l) hz)
    generalize settleL (d,l)=rs at *
    obtain⟨⟨d1,l1⟩,e1⟩:=rs
    simp only at hz KS hlo1 hop1 HSE
    subst hz
    have ho1:d1.ops≤99900000:=by omega
    have HB:=Lib.hid (And.intro hlo1 (And.intro ho1 (And.intro hb5 (And.intro hbn hvb))))
    clear hio hrv h3 hb5 hbn hvb hlo1 hop1 hoo ho1 hbs hkl hlt hk hvs HOK HV HLO hnl
    go_wp2_with fail
    refine KS.out.mono ?_
    rintro e w1 ⟨rfl,g1⟩
    have z1:w1.cell? ⟨w.heap.size,0,none⟩=some (dptr lb):=cell_of (g1.block 2 rfl) rfl
    obtain⟨pa,pc,g2⟩:=g1.lgOpen
    have z4:w1.cell? ⟨lb,4,none⟩=some (.slice pa l1.m.segs.length pc):=cell_of (g2.block 1 rfl) rfl
    have g3:=(((((g2.lgpClose).rownil 3 1).cells #[.slice none 0 0] 105).sel2 (R1:=[_,_]) [1,0] (by decide) rfl).segClose (segs:=[])).cells #[.bool false] 4
    have g4:=g3.cells #[.func (.func 209) #[] #[.pointer (some ⟨w.heap.size,0,none⟩),.pointer (some ⟨w.heap.size+1+1,0,none⟩),.pointer (some ⟨w1.heap.size,0,none⟩)],.func (.func 211) #[] #[.pointer (some ⟨w.heap.size,0,none⟩),.pointer (some ⟨w.heap.size+1,0,none⟩),.pointer (some ⟨w1.heap.size,0,none⟩),.pointer (some ⟨w1.heap.size+1,0,none⟩)]] 72
    simp only [World.size_alloc] at g4
    have g5:=g4.sel2 (R1:=[_,_,_,_,_]) [0,3,4,2,1] (by decide) rfl
    have KA:=Lib.hid (swap_all (ver:=ver) HB.out.2.2.2.2 HB.out.1 HB.out.2.1 HB.out.2.2.1 HB.out.2.2.2.1 _ rfl g5)
    clear g1 g2 g3 g4 g5 KS z0
    go_wp2_with fail
    refine KA.out.mono ?_
    rintro e w2 ⟨rfl,g7⟩
    have hops:=swapT_ops (ver:=ver) (l:=l1) (d:=d1) HB.out.2.2.1
    have hon:=swapT_on (ver:=ver) (bs:=bs) (l:=l1) (d:=d1)
    have hoff:=swapT_off (ver:=ver) (bs:=bs) (l:=l1) (d:=d1)
    generalize swapT ver bs l1 d1=r at *
    have hlen1:l1.m.segs.length≤64:=(mayM_iff.1 HB.out.1.2.2).1.2.2.2.1
    have hseg1:∀ x∈l1.m.segs,x < 4611686018427387904:=fun x hx=>Nat.lt_trans (mayM_seg HB.out.1.2.2 hx).2.2 (by decide)
    have hnx1:l1.m.next≤1000000:=(mayM_iff.1 HB.out.1.2.2).1.2.2.2.2.2
    have hod1:=HB.out.2.1
    have hbn1:=HB.out.2.2.2.1
    have HN1:=Lib.hid (And.intro hlen1 hseg1)
    by_cases hr:r.2=0
    ·have h8:In F0 w0 w2 (LgA lb bd r.1.l::DkA bd r.1.d::RowA 3 1 (.slice pa l1.m.segs.length pc) l1.m.segs.length (segV l1.m.segs)::Cells (w1.heap.size+1) #[.bool true] 4::Cells w.heap.size #[dptr lb] 78::Cells (w.heap.size+1) #[.int .i64 ver] 3::Cells (w.heap.size+1+1) #[.slice av bs.length cv] 250::RowA 61 1 (.slice av bs.length cv) bs.length vs::(bodB vs bs++R)):=by
      unfold SwX at g7;rw [if_pos (hon hr)] at g7;exact g7
     have HEND:Hid (∀ w',In F0 w0 w' (LgA lb bd r.1.l::DkA bd (removeD l1.m.segs r.1.d)::RowA 3 1 (.slice pa l1.m.segs.length pc) l1.m.segs.length (segV l1.m.segs)::Cells (w1.heap.size+1) #[.bool true] 4::Cells w.heap.size #[dptr lb] 78::Cells (w.heap.size+1) #[.int .i64 ver] 3::Cells (w.heap.size+1+1) #[.slice av bs.length cv] 250::RowA 61 1 (.slice av bs.length cv) bs.length vs::(bodB vs bs++R))→SwapPost lb bd (swapL ver bs (d,l)) F0 w0 R (.returned (.int .i64 0)) w'):=Lib.hid fun w' h'=>by
      refine post_of (r:=swapEnd l1 r) (Y:=[]) HSE.out ?_ ?_
      ·unfold swapEnd;rw [if_pos hr]
      ·unfold swapEnd;rw [if_pos hr]
       exact In.dropMid (X:=[_,_]) (h'.sel2 (R1:=[_,_,_,_,_,_,_,_]) [0,1] (by decide) rfl)
     have HR2:Hid (RmRel lb bd r.1.l r.1.d l1.m.segs (RowA 3 1 (.slice pa l1.m.segs.length pc) l1.m.segs.length (segV l1.m.segs)::Cells (w1.heap.size+1) #[.bool true] 4::Cells w.heap.size #[dptr lb] 78::Cells (w.heap.size+1) #[.int .i64 ver] 3::Cells (w.heap.size+1+1) #[.slice av bs.length cv] 250::RowA 61 1 (.slice av bs.length cv) bs.length vs::(bodB vs bs++R)) F0 w0 (.int .i64 0) w2):=Lib.hid ⟨0,Nat.zero_le _,rfl,h8⟩
     have HOP:Hid (r.1.d.ops≤99999000):=Lib.hid (by omega)
     have HZ:=Lib.hid hr
     clear h8 g7 hon hoff hops hr KA HB HSE hlen1 hseg1 hnx1 hod1 hbn1 z1 z4
     rw [HZ.out]
     go_wp2_with fail
     go_loopw [65] (RmRel lb bd r.1.l r.1.d l1.m.segs (RowA 3 1 (.slice pa l1.m.segs.length pc) l1.m.segs.length (segV l1.m.segs)::Cells (w1.heap.size+1) #[.bool true] 4::Cells w.heap.size #[dptr lb] 78::Cells (w.heap.size+1) #[.int .i64 ver] 3::Cells (w.heap.size+1+1) #[.slice av bs.length cv] 250::RowA 61 1 (.slice av bs.length cv) bs.length vs::(bodB vs bs++R)) F0 w0) (fun k _=>l1.m.segs.length - (intOf k).toNat)
     case atStart=>exact HR2.out
     case round=>
      obtain⟨j,hj,rfl,hio⟩:=hrel
      clear HR2
      by_cases hlt:j < l1.m.segs.length
      ·obtain⟨x,hx⟩:∃ x,l1.m.segs[j]?=some x:=⟨l1.m.segs[j],List.getElem?_eq_getElem hlt⟩
       obtain⟨Fs,hrow⟩:=hio.get 2 rfl
       obtain⟨b,rfl,c0⟩:=hrow.at.2 j _ (segV_at hx)
       have hlt':(j:Int) < (l1.m.segs.length:Int):=Int.ofNat_lt.2 hlt
       have hw2:wrap64 ((j:Int)+1)=(j:Int)+1:=by have:=HN1.out.1;unfold wrap64;omega
       obtain⟨Q,hQ⟩:∃ Q,Q=(RowA 3 1 (.slice (some ⟨b,0,none⟩) l1.m.segs.length pc) l1.m.segs.length (segV l1.m.segs)::Cells (w1.heap.size+1) #[.bool true] 4::Cells w.heap.size #[dptr lb] 78::Cells (w.heap.size+1) #[.int .i64 ver] 3::Cells (w.heap.size+1+1) #[.slice av bs.length cv] 250::RowA 61 1 (.slice av bs.length cv) bs.length vs::(bodB vs bs++R)):=⟨_,rfl⟩
       have hQ2:Q[2]?=some (Cells w.heap.size #[dptr lb] 78):=by rw [hQ];rfl
       rw [← hQ] at hio ⊢
       have HN:=Lib.hid (fun w' h'=>rm_step (w:=w') (l:=r.1.l) (lb:=lb) (bd:=bd) (d:=r.1.d) (F0:=F0) (w0:=w0) (Q:=Q) hx h')
       have KN:=Lib.hid (o_name (hio.drewN 1) x (HN1.out.2 x (List.mem_of_getElem? hx)))
       have KC:=Lib.hid (fun w' (h':In F0 w0 w' (LgA lb bd r.1.l::DkA bd (removeD (l1.m.segs.take j) r.1.d)::Q))=>o_dremove h' 1 rfl (rm_ops HOP.out (Nat.le_trans HN1.out.1 (by decide))) (segName x) (segName_size x))
       have HLY:=Lib.hid (fun w' d' (h':In F0 w0 w' (LgA lb bd r.1.l::DkA bd d'::Q))=>And.intro (show w'.cell? ⟨w.heap.size,0,none⟩=some (dptr lb) from cell_of (h'.block 4 hQ2) rfl) h'.lg0)
       obtain⟨y0,y1⟩:=HLY.out wr _ hio
       clear hio hrow hj hlt hx hQ hQ2
       go_wp2_with fail
       go_region_held3 (fun w'=>w'.cell? ⟨w.heap.size,0,none⟩=some (dptr lb)∧w'.cell? ⟨lb,0,none⟩=some (dptr bd)) (first | exact⟨hz1,hz2⟩ | exact⟨y0,y1⟩ | go_keep)
        (first
         | (go_at_call 89;refine KN.out.mono ?_;rintro e w3 ⟨rfl,g1⟩;obtain⟨hz1,hz2⟩:=HLY.out w3 _ g1;have K1:=Lib.hid (KC.out w3 g1);clear g1)
         | (go_at_call 135;refine K1.out.mono ?_;rintro e w4 ⟨rfl,g2⟩;obtain⟨hz1,hz2⟩:=HLY.out w4 _ g2;have HN2:=Lib.hid (HN.out w4 g2);clear g2))
       go_wp2_with fail
       go_roundw
       case rel=>(try rw [hw2]);exact HN2.out
       case measure=>(try rw [hw2]);exact meas_lt hlt'
      ·have hge:(l1.m.segs.length:Int)≤(j:Int):=Int.ofNat_le.2 (Nat.le_of_not_lt hlt)
       have hkl:l1.m.segs.take j=l1.m.segs:=List.take_of_length_le (Nat.le_of_not_lt hlt)
       rw [hkl] at hio
       have G:=Lib.hid (HEND.out wr hio)
       clear hio hkl hlt hj HEND
       go_wp2_with fail
       go_ret
       have GG:=G.out
       rw [HBS.out] at GG
       exact GG
    ·have q:(r.2 == 0)=false:=beq_eq_false_iff_ne.2 hr
     cases hrn:r.1.on with
     | true=>
      have h8:In F0 w0 w2 (LgA lb bd r.1.l::DkA bd r.1.d::RowA 3 1 (.slice pa l1.m.segs.length pc) l1.m.segs.length (segV l1.m.segs)::Cells (w1.heap.size+1) #[.bool true] 4::Cells w.heap.size #[dptr lb] 78::Cells (w.heap.size+1) #[.int .i64 ver] 3::Cells (w.heap.size+1+1) #[.slice av bs.length cv] 250::RowA 61 1 (.slice av bs.length cv) bs.length vs::(bodB vs bs++R)):=by
       unfold SwX at g7;rw [if_pos hrn] at g7;exact g7
      have G:Hid (SwapPost lb bd (swapL ver bs (d,l)) F0 w0 R (.returned (.int .i64 r.2)) w2):=Lib.hid (by
       refine post_of (r:=swapEnd l1 r) (Y:=[]) HSE.out ?_ ?_
       ·unfold swapEnd;rw [if_neg hr,if_pos hrn]
       ·unfold swapEnd;rw [if_neg hr,if_pos hrn]
        exact In.dropMid (X:=[_,_]) (h8.sel2 (R1:=[_,_,_,_,_,_,_,_]) [0,1] (by decide) rfl))
      have y0:w2.cell? ⟨w1.heap.size+1,0,none⟩=some (.bool true):=cell_of (h8.block 3 rfl) rfl
      clear h8 g7 hon hoff hops hr KA HB HSE hlen1 hseg1 hnx1 hod1 hbn1 z1 z4 hrn
      go_wp2_with fail
      go_ret
      have GG:=G.out
      rw [HBS.out] at GG
      exact GG
     | false=>
      have h8:In F0 w0 w2 (LgP (.slice pa l1.m.segs.length pc) lb bd l1::DkA bd r.1.d::SegA w1.heap.size r.1.segs::Cells (w1.heap.size+1) #[.bool false] 4::Cells w.heap.size #[dptr lb] 78::Cells (w.heap.size+1) #[.int .i64 ver] 3::Cells (w.heap.size+1+1) #[.slice av bs.length cv] 250::RowA 61 1 (.slice av bs.length cv) bs.length vs::(bodB vs bs++R)):=by
       unfold SwX at g7;rw [if_neg (by rw [hrn];simp)] at g7;exact g7
      obtain⟨sa,sc,h9⟩:=((h8.lgpA).sel2 (R1:=[_,_,_]) [2,0,1] (by decide) rfl).segOpen
      have y0:w2.cell? ⟨w1.heap.size+1,0,none⟩=some (.bool false):=cell_of (h9.block 4 rfl) rfl
      have y1:w2.cell? ⟨w.heap.size,0,none⟩=some (dptr lb):=cell_of (h9.block 5 rfl) rfl
      have y2:w2.cell? ⟨w1.heap.size,0,none⟩=some (.slice sa r.1.segs.length sc):=cell_of (h9.block 1 rfl) rfl
      have KD:=Lib.hid (o_drop (h9.sel2 (R1:=[_,_,_,_]) [2,3,0,1] (by decide) rfl) (by omega) (by omega) (fun x hx=>by have:=hops.2.2 x hx;omega))
      have HEND:Hid (∀ w',In F0 w0 w' (LgA lb bd l1::DkA bd (dropD r.1.segs r.1.d)::RowA 3 1 (.slice sa r.1.segs.length sc) r.1.segs.length (segV r.1.segs)::Cells w1.heap.size #[.slice sa r.1.segs.length sc] 105::Cells (w1.heap.size+1) #[.bool false] 4::Cells w.heap.size #[dptr lb] 78::Cells (w.heap.size+1) #[.int .i64 ver] 3::Cells (w.heap.size+1+1) #[.slice av bs.length cv] 250::RowA 61 1 (.slice av bs.length cv) bs.length vs::(bodB vs bs++R))→SwapPost lb bd (swapL ver bs (d,l)) F0 w0 R (.returned (.int .i64 r.2)) w'):=Lib.hid fun w' h'=>by
       refine post_of (r:=swapEnd l1 r) (Y:=[]) HSE.out ?_ ?_
       ·unfold swapEnd;rw [if_neg hr,if_neg (by rw [hrn];simp)]
       ·unfold swapEnd;rw [if_neg hr,if_neg (by rw [hrn];simp)]
        simp only
        rw [hoff hrn]
        exact In.dropMid (X:=[_,_]) (h'.sel2 (R1:=[_,_,_,_,_,_,_,_,_]) [0,1] (by decide) rfl)
      clear h8 h9 g7 hon hoff hops hr KA HB HSE hlen1 hseg1 hnx1 hod1 hbn1 z1 z4 hrn
      go_wp2_with fail
      refine KD.out.mono ?_
      rintro e w3 ⟨rfl,g8⟩
      have G:=Lib.hid (HEND.out w3 g8)
      clear g8 KD HEND
      go_wp2_with fail
      go_ret
      have GG:=G.out
      rw [HBS.out] at GG
      exact GG
   ·have q:((settleL (d,l)).2 != 0)=true:=by rw [bne_iff_ne];exact hz
    have HX:Hid (∀ w',In F0 w0 w' (LgA lb bd (settleL (d,l)).1.2::DkA bd (settleL (d,l)).1.1::Cells w.heap.size #[dptr lb] 78::Cells (w.heap.size+1) #[.int .i64 ver] 3::Cells (w.heap.size+1+1) #[.slice av bs.length cv] 250::RowA 61 1 (.slice av bs.length cv) bs.length vs::(bodB vs bs++R))→SwapPost lb bd (swapL ver bs (d,l)) F0 w0 R (.returned (.int .i64 (settleL (d,l)).2)) w'):=Lib.hid fun w' h'=>by
     rw [swapL_err hz]
     exact⟨rfl,In.dropMid (X:=[_,_]) (h'.sel2 (R1:=[_,_,_,_,_,_]) [0,1] (by decide) rfl)⟩
    clear hio hrv h3 hb5 hbn hvb hlo1 hop1 hoo hbs hkl hlt hk hvs HOK HV HLO hnl hz
    go_wp2_with fail
    refine KS.out.mono ?_
    rintro e w1 ⟨rfl,g1⟩
    have G:=Lib.hid (HX.out w1 g1)
    clear g1 KS HX
    go_wp2_with fail
    go_ret
    have GG:=G.out
    rw [HBS.out] at GG
    exact GG
end
theorem all_take {l:List Rec} {s:StD} (h:(applyAll l s).2=0) (k:Nat):(applyAll (l.take k) s).2=0:=by
 rw [← List.take_append_drop k l,applyAll_app] at h
 by_cases hc:(applyAll (l.take k) s).2=0
 ·exact hc
 ·rw [if_pos hc] at h;exact absurd h hc
theorem all_step {l:List Rec} {s:StD} {k:Nat} {x:Rec} (h:(applyAll l s).2=0) (hx:l[k]?=some x):(applySt (applyAll (l.take k) s).1 x).2=0:=by
 by_cases hc:(applySt (applyAll (l.take k) s).1 x).2=0
 ·exact hc
 ·rw [all_err hx (all_take h k) hc] at h;exact absurd h hc
section
variable {F0:List Nat} {w0 w:World} {R:List Asrt} {tb:Nat} {st:StD}
theorem rc14_of {x:Rec} {Ax:Option Addr} {cx g:Nat} {W:World} (h2:W.heap[g]?=some (.cells #[.int .i64 x.kind,.int .u32 x.fl.t.src,.int .u32 x.fl.t.dst,.int .i64 x.fl.t.proto,.int .i64 x.fl.t.sport,.int .i64 x.fl.t.dport,.int .i64 x.fl.bk,.int .i64 x.fl.gen,.int .i64 x.fl.seen,.int .i64 x.gen,.slice Ax x.bks.length cx,.int .i64 x.bk,.int .i64 x.till,.int .i64 x.count] 45 (0,0))):W.cell? ⟨g,0,none⟩=some (.int .i64 x.kind)∧W.cell? ⟨g,1,none⟩=some (.int .u32 x.fl.t.src)∧W.cell? ⟨g,2,none⟩=some (.int .u32 x.fl.t.dst)∧W.cell? ⟨g,3,none⟩=some (.int .i64 x.fl.t.proto)∧W.cell? ⟨g,4,none⟩=some (.int .i64 x.fl.t.sport)∧W.cell? ⟨g,5,none⟩=some (.int .i64 x.fl.t.dport)∧W.cell? ⟨g,6,none⟩=some (.int .i64 x.fl.bk)∧W.cell? ⟨g,7,none⟩=some (.int .i64 x.fl.gen)∧W.cell? ⟨g,8,none⟩=some (.int .i64 x.fl.seen)∧W.cell? ⟨g,9,none⟩=some (.int .i64 x.gen)∧W.cell? ⟨g,10,none⟩=some (.slice Ax x.bks.length cx)∧W.cell? ⟨g,11,none⟩=some (.int .i64 x.bk)∧W.cell? ⟨g,12,none⟩=some (.int .i64 x.till)∧W.cell? ⟨g,13,none⟩=some (.int .i64 x.count):=
 ⟨cell_of h2 rfl,cell_of h2 rfl,cell_of h2 rfl,cell_of h2 rfl,cell_of h2 rfl,cell_of h2 rfl,cell_of h2 rfl,cell_of h2 rfl,cell_of h2 rfl,cell_of h2 rfl,cell_of h2 rfl,cell_of h2 rfl,cell_of h2 rfl,cell_of h2 rfl⟩
def RowsRel (st:StD) (ver:Int) (mb:Nat) (rv pv:Value) (F0:List Nat) (w0:World) (R:List Asrt) (v i:Value) (wr:World):Prop:=
 ∃ (k:Nat) (va:Option Addr) (vc:Nat),k≤(recsSt st).length∧i=.int .i64 k∧v=.slice va k vc∧In F0 w0 wr (FrsA (.slice va k vc) ((rowsS ver st).take k)::StA mb (applyAll (((recsSt st).map (fun r=>inRec r ver)).take k) zeroSt).1::RowA 45 14 rv (recsSt st).length (recsV pv (recsSt st))::BkR pv st.bks::R)
theorem In.frsSnoc {vs:List Value} {fs:List FrD} {f:FrD} {v v':Value} {Q:List Asrt} (hl:vs.length=fs.length) (h:In F0 w0 w (RowA 85 3 v' (fs.length+1) (flatFr fs vs++encFr f v)::bodyA v f::(bodiesR vs fs++Q))):In F0 w0 w (FrsA v' (fs++[f])::Q):=by
 refine frs_close (vs:=vs++[v]) (by simp [hl]) ?_
 rw [flatFr_snoc _ _ hl,bodiesR_snoc _ _ hl,List.length_append]
 refine h.perm (List.Perm.cons _ ?_)
 rw [List.append_assoc]
 exact List.perm_middle.symm
theorem o_sorows {ver:Int} (hv:verOk ver=true) (i0:Nat) (hA:R[i0]?=some (StA tb st)) (h:In F0 w0 w R) :
  Calls Tryz.prog 152 #[pR tb,.int .i64 ver] w fun e w'=>∃ a c mb,e=.returned (.tuple #[.slice a (rowsS ver st).length c,pR mb,.int .i64 0])∧In F0 w0 w' (FrsA (.slice a (rowsS ver st).length c) (rowsS ver st)::StA mb (inSt ver st)::R):=by
 have hok:OkSt st:=by
  obtain⟨F,hF⟩:=h.get i0 hA
  obtain⟨dm,fm,bv,hok,_⟩:=hF
  exact hok
 have K1:=Lib.hid (o_stnew h)
 have K2:Hid (∀ mb w',In F0 w0 w' (StA mb zeroSt::R)→Calls Tryz.prog 68 #[pR tb] w' fun e w''=>∃ v pv,e=.returned v∧In F0 w0 w'' (RowA 45 14 v (recsSt st).length (recsV pv (recsSt st))::BkR pv st.bks::StA mb zeroSt::R)):=Lib.hid (fun mb w' h'=>o_records_at h' (i0+1) hA)
 have HALL:=Lib.hid (made_in hok hv)
 have HOK:=Lib.hid hok
 have HV:=Lib.hid hv
 have hlen:=recsSt_len hok
 have hrl:(rowsS ver st).length=(recsSt st).length:=by simp [rowsS]
 clear h hok hv hA
 go_enter Tryz.func152,Tryz.ntmps152
 go_wp2_with fail
 refine K1.out.mono ?_
 rintro e w1 ⟨mb,rfl,g1⟩
 have K3:=Lib.hid (K2.out mb w1 g1)
 clear g1 K1 K2
 go_wp2_with fail
 refine K3.out.mono ?_
 rintro e w2 ⟨rv,pv,rfl,g2⟩
 obtain⟨Fr,rr⟩:=g2.get 0 rfl
 obtain⟨ra,rc,rfl,-,-,-⟩:=RowA.shape rr
 obtain⟨Fp,rp⟩:=g2.get 1 rfl
 obtain⟨pa,pc,rfl,-,-,-⟩:=RowA.shape rp
 have HN:Hid (pa=none→pc=0):=Lib.hid (fun e=>RowA.noc rp e)
 have HR:Hid (RowsRel st ver mb (.slice ra (recsSt st).length rc) (.slice pa st.bks.length pc) F0 w0 R (.slice none 0 0) (.int .i64 0) w2):=Lib.hid ⟨0,none,0,Nat.zero_le _,rfl,rfl,by
  have g3:=frs_close (vs:=[]) (fs:=[]) rfl ((g2.sel2 (R1:=[_,_,_]) [2,0,1] (by decide) rfl).rownil 85 3)
  exact g3⟩
 clear g2 K3 rr rp
 go_wp2_with fail
 go_loopw [7,17] (RowsRel st ver mb (.slice ra (recsSt st).length rc) (.slice pa st.bks.length pc) F0 w0 R) (fun _ k _=>(recsSt st).length - (intOf k).toNat)
 case atStart=>exact HR.out
 case round=>
  obtain⟨k,va,vc,hk,rfl,rfl,hio⟩:=hrel
  clear HR
  by_cases hlt:k < (recsSt st).length
  ·obtain⟨x,hx⟩:∃ x,(recsSt st)[k]?=some x:=⟨(recsSt st)[k],List.getElem?_eq_getElem hlt⟩
   obtain⟨Fr,rr⟩:=hio.get 2 rfl
   obtain⟨gr,o,rfl,sc⟩:=rr.all.plain (by omega) (by decide)
   obtain⟨Ax,cx,hpx,hnx,hbx⟩:∃ Ax cx,(if k=0 then (Value.slice pa st.bks.length pc) else .slice none 0 0)=.slice Ax x.bks.length cx∧(Ax=none→cx=0)∧BksAt F0 w0 (RowA 45 14 (.slice (some ⟨gr,o,none⟩) (recsSt st).length rc) (recsSt st).length (recsV (.slice pa st.bks.length pc) (recsSt st))::BkR (.slice pa st.bks.length pc) st.bks::R) Ax x.bks:=by
    rcases recs_el hx with ⟨rfl,e⟩|⟨h0,e⟩
    ·refine⟨pa,pc,by rw [if_pos rfl,e],HN.out,?_⟩
     rw [e]
     exact fun w' h'=>by obtain⟨F',r'⟩:=h'.get 1 rfl;exact r'.all
    ·refine⟨none,0,by rw [if_neg h0,e];rfl,fun _=>rfl,?_⟩
     rw [e]
     exact fun w' h'=>Src.nil _ _ _
   have c0:wr.cell? ⟨gr,o+k * 14,none⟩=some (.int .i64 x.kind):=by
    have:=sc (k * 14+0) _ (by rw [recsV_at hx 0 (by decide),hpx];rfl)
    rwa [← Nat.add_assoc] at this
   have c1:wr.cell? ⟨gr,o+k * 14+1,none⟩=some (.int .u32 x.fl.t.src):=by
    have:=sc (k * 14+1) _ (by rw [recsV_at hx 1 (by decide),hpx];rfl)
    rwa [← Nat.add_assoc] at this
   have c2:wr.cell? ⟨gr,o+k * 14+2,none⟩=some (.int .u32 x.fl.t.dst):=by
    have:=sc (k * 14+2) _ (by rw [recsV_at hx 2 (by decide),hpx];rfl)
    rwa [← Nat.add_assoc] at this
   have c3:wr.cell? ⟨gr,o+k * 14+3,none⟩=some (.int .i64 x.fl.t.proto):=by
    have:=sc (k * 14+3) _ (by rw [recsV_at hx 3 (by decide),hpx];rfl)
    rwa [← Nat.add_assoc] at this
   have c4:wr.cell? ⟨gr,o+k * 14+4,none⟩=some (.int .i64 x.fl.t.sport):=by
    have:=sc (k * 14+4) _ (by rw [recsV_at hx 4 (by decide),hpx];rfl)
    rwa [← Nat.add_assoc] at this
   have c5:wr.cell? ⟨gr,o+k * 14+5,none⟩=some (.int .i64 x.fl.t.dport):=by
    have:=sc (k * 14+5) _ (by rw [recsV_at hx 5 (by decide),hpx];rfl)
    rwa [← Nat.add_assoc] at this
   have c6:wr.cell? ⟨gr,o+k * 14+6,none⟩=some (.int .i64 x.fl.bk):=by
    have:=sc (k * 14+6) _ (by rw [recsV_at hx 6 (by decide),hpx];rfl)
    rwa [← Nat.add_assoc] at this
   have c7:wr.cell? ⟨gr,o+k * 14+7,none⟩=some (.int .i64 x.fl.gen):=by
    have:=sc (k * 14+7) _ (by rw [recsV_at hx 7 (by decide),hpx];rfl)
    rwa [← Nat.add_assoc] at this
   have c8:wr.cell? ⟨gr,o+k * 14+8,none⟩=some (.int .i64 x.fl.seen):=by
    have:=sc (k * 14+8) _ (by rw [recsV_at hx 8 (by decide),hpx];rfl)
    rwa [← Nat.add_assoc] at this
   have c9:wr.cell? ⟨gr,o+k * 14+9,none⟩=some (.int .i64 x.gen):=by
    have:=sc (k * 14+9) _ (by rw [recsV_at hx 9 (by decide),hpx];rfl)
    rwa [← Nat.add_assoc] at this
   have c10:wr.cell? ⟨gr,o+k * 14+10,none⟩=some (.slice Ax x.bks.length cx):=by
    have:=sc (k * 14+10) _ (by rw [recsV_at hx 10 (by decide),hpx];rfl)
    rwa [← Nat.add_assoc] at this
   have c11:wr.cell? ⟨gr,o+k * 14+11,none⟩=some (.int .i64 x.bk):=by
    have:=sc (k * 14+11) _ (by rw [recsV_at hx 11 (by decide),hpx];rfl)
    rwa [← Nat.add_assoc] at this
   have c12:wr.cell? ⟨gr,o+k * 14+12,none⟩=some (.int .i64 x.till):=by
    have:=sc (k * 14+12) _ (by rw [recsV_at hx 12 (by decide),hpx];rfl)
    rwa [← Nat.add_assoc] at this
   have c13:wr.cell? ⟨gr,o+k * 14+13,none⟩=some (.int .i64 x.count):=by
    have:=sc (k * 14+13) _ (by rw [recsV_at hx 13 (by decide),hpx];rfl)
    rwa [← Nat.add_assoc] at this
   have hlt':(k:Int) < ((recsSt st).length:Int):=Int.ofNat_lt.2 hlt
   have hw2:wrap64 ((k:Int)+1)=(k:Int)+1:=by unfold wrap64;omega
   obtain⟨wx1,wx2,wx3⟩:=WfR.recs HOK.out x (List.mem_of_getElem? hx)
   have hbl:x.bks.length≤1000000:=by
    have:=(HOK.out.lens).1
    rcases recs_el hx with ⟨_,e⟩|⟨_,e⟩ <;> rw [e]
    ·omega
    ·exact Nat.zero_le _
   have henc:=(dec_enc wx1 HV.out wx2).1
   have hfk:(rowsS ver st)[k]?=some (encRec x ver).1:=by simp [rowsS,hx]
   have hik:((recsSt st).map (fun r=>inRec r ver))[k]?=some (inRec x ver):=by simp [hx]
   have hstep:=all_step (by rw [HALL.out]) hik
   have hsn:=all_snoc hik (all_take (by rw [HALL.out]) k) hstep
   have htk:(rowsS ver st).take (k+1)=(rowsS ver st).take k++[(encRec x ver).1]:=by rw [List.take_add_one,hfk];rfl
   have hfl:((rowsS ver st).take k).length=k:=by rw [List.length_take,hrl];omega
   have g1:=hio.cells #[.int .i64 x.kind,.int .u32 x.fl.t.src,.int .u32 x.fl.t.dst,.int .i64 x.fl.t.proto,.int .i64 x.fl.t.sport,.int .i64 x.fl.t.dport,.int .i64 x.fl.bk,.int .i64 x.fl.gen,.int .i64 x.fl.seen,.int .i64 x.gen,.slice Ax x.bks.length cx,.int .i64 x.bk,.int .i64 x.till,.int .i64 x.count] 45
   have KE:=(o_rcenc (r:=x) (c:=cx) ver (hbx.moreL [Cells wr.heap.size #[.int .i64 x.kind,.int .u32 x.fl.t.src,.int .u32 x.fl.t.dst,.int .i64 x.fl.t.proto,.int .i64 x.fl.t.sport,.int .i64 x.fl.t.dport,.int .i64 x.fl.bk,.int .i64 x.fl.gen,.int .i64 x.fl.seen,.int .i64 x.gen,.slice Ax x.bks.length cx,.int .i64 x.bk,.int .i64 x.till,.int .i64 x.count] 45,FrsA (.slice va k vc) ((rowsS ver st).take k),StA mb (applyAll (((recsSt st).map (fun r=>inRec r ver)).take k) zeroSt).1]) wx1 hbl g1)
   have HM:=Lib.hid (meas_lt hlt')
   have HK:Hid (k+1≤(recsSt st).length):=Lib.hid hlt
   have HSN:=Lib.hid hsn
   have HTK:=Lib.hid htk
   have HFL:=Lib.hid hfl
   have HNX:=Lib.hid hnx
   have HBX:=Lib.hid hbx
   have HW1:=Lib.hid wx1
   clear hio hx hk rr sc hpx hnx hbx g1 hfk hik hstep hsn htk hfl wx1 wx2 wx3 hlt
   rw [show encRec x ver=((encRec x ver).1,0) from by rw [← henc]] at KE
   replace KE:=Lib.hid KE
   clear henc
   generalize (rowsS ver st).take k=fs at *
   generalize (applyAll (((recsSt st).map (fun r=>inRec r ver)).take k) zeroSt).1=t at *
   generalize (encRec x ver).1=fr at *
   go_wp2_with fail
   refine KE.out.mono ?_
   rintro e w3 ⟨v,rfl,g3⟩
   have hfk:=HFL.out
   clear HFL
   subst hfk
   obtain⟨vs,hvs,g4⟩:=(g3.sel2 (R1:=[_,_,_,_,_,_]) [2,0,1,3,4,5] (by decide) rfl).frsOpen
   have g5:=g4.perm (List.Perm.cons _ (List.perm_append_comm (l₁:=bodiesR vs fs) (l₂:=bodyA v fr::Cells wr.heap.size #[.int .i64 x.kind,.int .u32 x.fl.t.src,.int .u32 x.fl.t.dst,.int .i64 x.fl.t.proto,.int .i64 x.fl.t.sport,.int .i64 x.fl.t.dport,.int .i64 x.fl.bk,.int .i64 x.fl.gen,.int .i64 x.fl.seen,.int .i64 x.gen,.slice Ax x.bks.length cx,.int .i64 x.bk,.int .i64 x.till,.int .i64 x.count] 45::StA mb t::RowA 45 14 (.slice (some ⟨gr,o,none⟩) (recsSt st).length rc) (recsSt st).length (recsV (.slice pa st.bks.length pc) (recsSt st))::BkR (.slice pa st.bks.length pc) st.bks::R)))
   obtain⟨Fv,rv⟩:=g5.get 1 rfl
   obtain⟨bv,bc,rfl,-,-,-⟩:=RowA.shape rv
   have g6:=(g5.cells #[.int .i64 fr.kind,.int .i64 fr.ver,.slice bv fr.body.length bc] 85).cells #[.int .i64 fr.kind,.int .i64 fr.ver,.slice bv fr.body.length bc] 85
   simp only [World.size_alloc] at g6
   have SB:=Lib.hid (Src.of_block (k:=3) (g6.block 0 rfl) rfl)
   have H6:=Lib.hid g6
   have HVS:=Lib.hid hvs
   clear g3 g4 g5 g6 rv hvs KE
   go_wp2_with (at_builtin;refine app_list rfl H6.out 2 rfl (.tmp 30) (.tmp 32) 207 (by rfl) Tryz.underlying207 infoFrame (by decide) (by decide) (by rfl) (by rfl) SB.out (fun u hu=>by simp at hu;rcases hu with rfl | rfl | rfl <;> rfl) (by have:=HK.out;omega) ?_)
   intro v' w5 ho hg
   obtain⟨Fw,hw⟩:=ho.get 2 rfl
   obtain⟨aw,cw,rfl,-,-,-⟩:=hw.shape
   have g7:In F0 w0 w5 (FrsA (.slice aw (fs.length+1) cw) (fs++[fr])::Cells wr.heap.size #[.int .i64 x.kind,.int .u32 x.fl.t.src,.int .u32 x.fl.t.dst,.int .i64 x.fl.t.proto,.int .i64 x.fl.t.sport,.int .i64 x.fl.t.dport,.int .i64 x.fl.bk,.int .i64 x.fl.gen,.int .i64 x.fl.seen,.int .i64 x.gen,.slice Ax x.bks.length cx,.int .i64 x.bk,.int .i64 x.till,.int .i64 x.count] 45::StA mb t::RowA 45 14 (.slice (some ⟨gr,o,none⟩) (recsSt st).length rc) (recsSt st).length (recsV (.slice pa st.bks.length pc) (recsSt st))::BkR (.slice pa st.bks.length pc) st.bks::R):=In.frsSnoc HVS.out (ho.drop.drop.perm (List.Perm.cons _ (List.Perm.cons _ (List.perm_append_comm (l₁:=Cells wr.heap.size #[.int .i64 x.kind,.int .u32 x.fl.t.src,.int .u32 x.fl.t.dst,.int .i64 x.fl.t.proto,.int .i64 x.fl.t.sport,.int .i64 x.fl.t.dport,.int .i64 x.fl.bk,.int .i64 x.fl.gen,.int .i64 x.fl.seen,.int .i64 x.gen,.slice Ax x.bks.length cx,.int .i64 x.bk,.int .i64 x.till,.int .i64 x.count] 45::StA mb t::RowA 45 14 (.slice (some ⟨gr,o,none⟩) (recsSt st).length rc) (recsSt st).length (recsV (.slice pa st.bks.length pc) (recsSt st))::BkR (.slice pa st.bks.length pc) st.bks::R) (l₂:=bodiesR vs fs)))))
   have hy:=rc14_of (g7.block 1 rfl)
   obtain⟨y0,y1,y2,y3,y4,y5,y6,y7,y8,y9,y10,y11,y12,y13⟩:=hy
   have KI:=Lib.hid (o_rcin (r:=x) (c:=cx) ver (HBX.out.moreL [FrsA (.slice aw (fs.length+1) cw) (fs++[fr]),Cells wr.heap.size #[.int .i64 x.kind,.int .u32 x.fl.t.src,.int .u32 x.fl.t.dst,.int .i64 x.fl.t.proto,.int .i64 x.fl.t.sport,.int .i64 x.fl.t.dport,.int .i64 x.fl.bk,.int .i64 x.fl.gen,.int .i64 x.fl.seen,.int .i64 x.gen,.slice Ax x.bks.length cx,.int .i64 x.bk,.int .i64 x.till,.int .i64 x.count] 45,StA mb t]) HNX.out hbl g7)
   have HIB:Hid ((inRec x ver).bks.length≤1000000):=Lib.hid (Nat.le_trans (inRec_bks _ _) hbl)
   have HIW:=Lib.hid (WfR.inRec HW1.out ver)
   clear ho hg hw g7 H6 SB HVS
   go_wp2_with fail
   refine KI.out.mono ?_
   rintro e w6 ⟨pv2,rfl,g8⟩
   obtain⟨Fp,rp⟩:=g8.get 0 rfl
   obtain⟨pa2,pc2,rfl,-,-,-⟩:=RowA.shape rp
   have KP:=Lib.hid (o_apply (r:=inRec x ver) (A:=pa2) (c:=pc2) (bks_row rfl 0 rfl) (fun e=>RowA.noc rp e) HIB.out HIW.out (g8.sel2 (R1:=[_,_,_,_,_,_]) [3,0,1,2,4,5] (by decide) rfl))
   clear g8 rp KI y0 y1 y2 y3 y4 y5 y6 y7 y8 y9 y10 y11 y12 y13
   go_wp2_with fail
   refine KP.out.mono ?_
   rintro e w7 ⟨rfl,g9⟩
   have HR:Hid (RowsRel st ver mb (.slice (some ⟨gr,o,none⟩) (recsSt st).length rc) (.slice pa st.bks.length pc) F0 w0 R (.slice aw (fs.length+1) cw) (.int .i64 ((fs.length:Int)+1)) w7):=Lib.hid ⟨fs.length+1,aw,cw,HK.out,by rw [Int.natCast_add];rfl,rfl,by
    rw [HTK.out,HSN.out]
    exact g9.sel2 (R1:=[_,_,_,_,_,_]) [2,0,4,5] (by decide) rfl⟩
   clear g9 KP HSN HTK
   go_wp2_with fail
   go_roundw
   case rel=>(try rw [hw2]);exact HR.out
   case measure=>(try rw [hw2]);exact HM.out
  ·have hge:((recsSt st).length:Int)≤(k:Int):=Int.ofNat_le.2 (Nat.le_of_not_lt hlt)
   have hkl:k=(recsSt st).length:=by omega
   subst hkl
   have G:Hid (In F0 w0 wr (FrsA (.slice va (recsSt st).length vc) (rowsS ver st)::StA mb (inSt ver st)::R)):=Lib.hid (by
    have:=hio.sel2 (R1:=[_,_,_,_]) [0,1] (by decide) rfl
    rw [List.take_of_length_le (Nat.le_of_eq hrl),List.take_of_length_le (by simp),HALL.out] at this
    exact this)
   have HRL:=Lib.hid hrl
   clear hio hlt hk hrl
   go_wp2_with fail
   exact bodyPost_ret (results_tmp3 Tryz.results152 _ _ _) rfl ⟨va,vc,mb,by rw [HRL.out];rfl,by rw [HRL.out];exact G.out⟩
end
end Go.Proofs.YtaopfagclnocdaaGreat
