/- .. -/
import Derived.Test.YtanhdliaaccacaaGreatUB35
import Derived.Test.YtanhdliaaccacaaGreatUB33
import Derived.Deep.DeepCutAuto
namespace Go.Proofs.YtanhdliaaccacaaGreat
open Go.RowKit
set_option linter.unusedVariables false
set_option maxHeartbeats 64000000
set_option maxRecDepth 100000
theorem OZ:(Tryz.prog.info? 65).map (fun i=>(i.zero.map (fun z=>z.cells.size),i.size,i.bytes))=some (some 1,1,24):=by kernel_rfl
theorem DV:∀ {vs:List Value} {bs:List (List UInt8)} (v:Value) (b:List UInt8),vs.length=bs.length→bodB (vs++[v]) (bs++[b])=bodB vs bs++[ay 5 1 v b.length (eB b)]
 | [],[],v,b,_=>rfl
 | [],_::_,_,_,h=>by simp at h
 | _::_,[],_,_,h=>by simp at h
 | x::vs,y::bs,v,b,h=>by
  simp only [List.cons_append,bodB]
  rw [DV v b (by simpa using h)]
theorem tX:∀ (l:List Nat) (d:ae),(iD l d).ops≤d.ops+l.length
 | [],d=>Nat.le_refl _
 | x::r,d=>by
  have h1:=tX r (cO d (ai x)).1
  have h2:=(Et d (ai x) (ai x) [] 0).2.2.2.2.1
  simp only [iD,List.length_cons];omega
theorem DW {f:cz} (h:ji f):gu f.kind f.ak f.body.length=0:=by
 obtain⟨h1,h2,h3⟩:=h
 unfold gu
 rw [if_neg (by omega),if_neg (by omega)]
theorem VS {f:cz} (h:ji f):xE f.kind f.ak f.body=aj f:=by
 unfold xE;rw [if_pos (DW h)];rfl
theorem VT {f:cz} (h:ji f):(aj f).length≤5000:=by
 obtain⟨h1,h2,h3⟩:=h
 rw [dJ];show 16+f.body.length≤5000;omega
section
variable {F0:List Nat} {w0 w:World} {R:List ax} {pn:Value} {bd lb sb:Nat} {d:ae} {l:bI}
theorem In.zV {X A:List ax} (h:In F0 w0 w (X++(A++R))):In F0 w0 w (X++R):=by
 have h1:In F0 w0 w (A++(X++R)):=by
  refine h.perm ?_
  rw [← List.append_assoc,← List.append_assoc]
  exact List.perm_append_comm.append_right R
 exact h1.right
abbrev WV (bx vx lx lb bd ak:Nat) (l:bI) (d:ae) (v:Value) (vs:List Value) (bss:List (List UInt8)) (R:List ax):List ax:=
 Cells bx #[v] 230::ay 65 1 v vs.length vs::(bodB vs bss++([Cells vx #[.int .i64 ak] 3,Cells lx #[aF lb] 94,eH lb bd l,bJ bd d]++R))
def Nf (bx vx lx lb bd ak:Nat) (l:bI) (d:ae) (fs:List cz) (F0:List Nat) (w0:World) (R:List ax) (i:Value) (wr:World):Prop:=
 ∃ (k:Nat) (v:Value) (vs:List Value),k≤fs.length∧i=.int .i64 k∧vs.length=k∧In F0 w0 wr (WV bx vx lx lb bd ak l d v vs ((fs.take k).map aj) R)
theorem WV.rest {bx vx lx ak:Nat} {v:Value} {vs:List Value} {bss:List (List UInt8)} (h:In F0 w0 w (WV bx vx lx lb bd ak l d v vs bss R)):In F0 w0 w R:=
 (In.right (R1:=bodB vs bss) (h.drop.drop)).drop.drop.drop.drop
theorem VU {bx vx lx ak nb bb:Nat} {C C2:Array Value} {ty JB:Nat} {v v1:Value} {vs:List Value} {fs:List cz} {k:Nat} {f:cz} {bss:List (List UInt8)} (Tm:bss=(fs.take k).map aj) (hf:fs[k]?=some f) (hvs:vs.length=k)
  (h:In F0 w0 w (Cells bb C2 JB::ay 5 1 v1 (aj f).length (eB (aj f))::Cells nb C ty::Cells bx #[v] 230::ay 65 1 v (vs++[v1]).length (vs++[v1])::(bodB vs bss++([Cells vx #[.int .i64 ak] 3,Cells lx #[aF lb] 94,eH lb bd l,bJ bd d]++R)))) :
  Nf bx vx lx lb bd ak l d fs F0 w0 R (.int .i64 ((k:Int)+1)) w:=by
 subst Tm
 have hk:=(List.getElem?_eq_some_iff.1 hf).1
 refine⟨k+1,v,vs++[v1],hk,by rw [Int.natCast_add];rfl,by simp [hvs],?_⟩
 have h1:=h.aL (R1:=[_,_,_,_,_]) [3,4,1] (by decide) rfl
 have h2:=In.OY (X:=[_,_]) (A:=[_]) h1
 unfold WV
 rw [List.take_add_one,hf]
 simp only [Option.toList_some,List.map_append,List.map_cons,List.map_nil]
 rw [DV v1 (aj f) (by simp [hvs];omega),List.append_assoc]
 exact h2
def Tn (lb bd:Nat) (l:bI) (d:ae) (aa:List Nat) (Q:List ax) (F0:List Nat) (w0:World) (i:Value) (wr:World):Prop:=
 ∃ k:Nat,k≤aa.length∧i=.int .i64 k∧In F0 w0 wr (eH lb bd l::bJ bd (iD (aa.take k) d)::Q)
theorem VV {aa:List Nat} {k x:Nat} {Q:List ax} (hx:aa[k]?=some x) (h:In F0 w0 w (eH lb bd l::bJ bd (cO (iD (aa.take k) d) (ai x)).1::Q)):Tn lb bd l d aa Q F0 w0 (.int .i64 ((k:Int)+1)) w:=by
 refine⟨k+1,(List.getElem?_eq_some_iff.1 hx).1,by rw [Int.natCast_add];rfl,?_⟩
 rw [List.take_add_one,hx]
 show In F0 w0 w (eH lb bd l::bJ bd (iD (aa.take k++[x]) d)::_)
 rw [xy];exact h
theorem YG {aa:List Nat} {k:Nat} (ho:d.ops≤99999000) (hs:aa.length≤100):(iD (aa.take k) d).ops≤100000000:=by
 have:=tX (aa.take k) d
 rw [List.length_take] at this;omega
def FrU (F0:List Nat) (w0:World) (R:List ax) (a:Option Addr) (fs:List cz):Prop:=∀ k f,fs[k]?=some f→∃ g o A c,a=some ⟨g,o,none⟩∧∀ w',In F0 w0 w' R→LM w' g (o+k * 3) f A c
def oF (lb bd:Nat) (r:DL×Int) (F0:List Nat) (w0:World) (R:List ax) (e:Ending) (w':World):Prop:=
 e=.returned (.int .i64 r.2)∧In F0 w0 w' (eH lb bd r.1.2::bJ bd r.1.1::R)
theorem DX {ak:Nat} {bs:List (List UInt8)} {s:DL} (h:(aY s).2≠0):fD ak bs s=aY s:=by
 unfold fD;rw [if_pos h]
theorem Gj {r r':DL×Int} {e:Ending} {Y:List ax} (hr:r'=r) (he:e=.returned (.int .i64 r.2)) (h:In F0 w0 w (eH lb bd r.1.2::bJ bd r.1.1::R)):oF lb bd r' F0 w0 R e w:=by
 subst hr;exact⟨he,h⟩
theorem YH {fs:List cz} {a:Option Addr} {c ak:Nat} (h:In F0 w0 w (eH lb bd l::bJ bd d::R)) (hl:ib l) (ho:d.ops≤99000000) (iK:1≤ak∧ak≤3) (hv:FrU F0 w0 R a fs) (hok:∀ f∈fs,ji f) (hn:fs.length≤1000) :
  Calls Tryz.prog 105 #[aF lb,.int .i64 ak,.slice a fs.length c] w (oF lb bd (fD ak (fs.map aj) (d,l)) F0 w0 R):=by
 have Pw:∀ (fn:Fn) (first cap:Array Value) (w:World),(Instr.makeFunc fn first cap).run Tryz.prog w=.ok (.func fn first cap) w:=fun _ _ _ _=>rfl
 have h1:=(((h.dz 65 1).cells #[aF lb] 94).cells #[.int .i64 ak] 3).cells #[.slice none 0 0] 230
 simp only [World.size_alloc] at h1
 have q1:decide ((ak:Int) < 1)=false:=decide_eq_false (by omega)
 have q2:decide ((3:Int) < (ak:Int))=false:=decide_eq_false (by omega)
 obtain⟨n0,hn0⟩:∃ n0,n0=w.heap.size:=⟨_,rfl⟩
 rw [← hn0] at h1
 have HR:Hid (Nf (n0+1+1) (n0+1) n0 lb bd ak l d fs F0 w0 R (.int .i64 0) _):=Lib.hid ⟨0,.slice none 0 0,[],Nat.zero_le _,rfl,rfl,h1.aL (R1:=[_,_,_,_,_,_]) [0,3,1,2,4,5] (by decide) rfl⟩
 have HV:=Lib.hid hv
 have oI:=Lib.hid hok
 have hnl:fs.length≤1000:=hn
 have MW:=Lib.hid (And.intro hl ho)
 clear h h1 hl ho hv hok hn iK
 go_enter Tryz.func105,Tryz.ntmps105
 rw [hn0] at HR
 go_wp2_with fail
 go_loopw [29] (Nf (w.heap.size+1+1) (w.heap.size+1) w.heap.size lb bd ak l d fs F0 w0 R) (fun k _=>fs.length - (intOf k).toNat)
 case atStart=>exact HR.out
 case round=>
  obtain⟨k,v,vs,hk,rfl,hvs,dh⟩:=hrel
  clear HR
  by_cases hlt:k < fs.length
  ·obtain⟨bss,Tm⟩:∃ bss,bss=(fs.take k).map aj:=⟨_,rfl⟩
   rw [← Tm] at dh
   obtain⟨f,hf⟩:∃ f,fs[k]?=some f:=⟨fs[k],List.getElem?_eq_getElem hlt⟩
   have hfo:=oI.out f (List.mem_of_getElem? hf)
   obtain⟨g,o,A,cA,rfl,hfu⟩:=HV.out k f hf
   have hfc:=hfu wr (WV.rest dh)
   have c0:=hfc.kind
   have c1:=hfc.ak
   have c2:=hfc.val
   have hlt':(k:Int) < (fs.length:Int):=Int.ofNat_lt.2 hlt
   have hw2:wrap64 ((k:Int)+1)=(k:Int)+1:=by unfold wrap64;omega
   have h2:=dh.cells #[.int .i64 f.kind,.int .i64 f.ak,.slice A f.body.length cA] 86
   have KP:=Ep (c:=cA) (A:=A) h2 f.kind f.ak (body:=f.body) (Nat.le_trans hfo.3 (by decide)) (fun w' h'=>(hfu w' (WV.rest h'.drop)).body)
   unfold zG at KP
   rw [DW hfo,VS hfo] at KP
   have KP':=Lib.hid KP
   have HN:=Lib.hid (fun bb C2 JB v1 v w' h'=>VU (F0:=F0) (w0:=w0) (w:=w') (R:=R) (lb:=lb) (bd:=bd) (l:=l) (d:=d) (bx:=w.heap.size+1+1) (vx:=w.heap.size+1) (lx:=w.heap.size) (ak:=ak) (nb:=wr.heap.size) (bb:=bb) (C:=#[.int .i64 f.kind,.int .i64 f.ak,.slice A f.body.length cA]) (C2:=C2) (ty:=86) (JB:=JB) (v:=v) (v1:=v1) (vs:=vs) (fs:=fs) Tm hf hvs h')
   clear h2 KP hfc hfu dh hf hfo hk hlt Tm
   go_wp2_with fail
   refine KP'.out.mono ?_
   rintro e w1 ⟨v1,rfl,g1⟩
   obtain⟨F1,r1⟩:=g1.get 0 rfl
   obtain⟨a1,c1',rfl,-,-,-⟩:=r1.shape
   have y0:w1.cell? ⟨w.heap.size+1+1,0,none⟩=some v:=cell_of (g1.block 2 rfl) rfl
   obtain⟨F2,r2⟩:=g1.get 3 rfl
   obtain⟨a2,c2',rfl,-,-,-⟩:=r2.shape
   have g5:=g1.cells #[.slice a1 (aj f).length c1'] 65
   have G5:=Lib.hid g5
   have SB:=Lib.hid (Src.of_block (k:=1) (g5.block 0 rfl) rfl)
   have HX:Hid (∀ v' w5,In F0 w0 w5 ((Cells w1.heap.size #[.slice a1 (aj f).length c1'] 65::ay 5 1 (.slice a1 (aj f).length c1') (aj f).length (eB (aj f))::Cells wr.heap.size #[.int .i64 f.kind,.int .i64 f.ak,.slice A f.body.length cA] 86::WV (w.heap.size+1+1) (w.heap.size+1) w.heap.size lb bd ak l d (.slice a2 vs.length c2') vs bss R).set 4 (ay 65 1 v' (vs.length+1) (vs++[.slice a1 (aj f).length c1']))) →
    w5.frozen? ⟨w.heap.size+1+1,0,none⟩=false∧w5.cell? ⟨w.heap.size+1+1,0,none⟩=some (.slice a2 vs.length c2')∧Nf (w.heap.size+1+1) (w.heap.size+1) w.heap.size lb bd ak l d fs F0 w0 R (.int .i64 ((k:Int)+1)) (w5.setCell ⟨w.heap.size+1+1,0,none⟩ v')):=Lib.hid fun v' w5 h5=>
     ⟨aK (h5.block 3 rfl),cell_of (h5.block 3 rfl) rfl,HN.out _ _ _ _ _ _ (by
      have h6:=h5.put 3 rfl 0 v'
      rw [List.length_append]
      exact h6)⟩
   have TQ:Hid (vs.length≤1000):=Lib.hid (by omega)
   clear g1 g5 r1 r2 KP' HN hvs
   go_wp2_with (at_builtin;refine iG rfl G5.out 4 rfl (.tmp 41) (.tmp 43) 230 (by rfl) Tryz.underlying230 OZ (by decide) (by decide) (by rfl) (by rfl) SB.out (fun u hu=>by simp at hu;subst hu;rfl) (Nat.le_trans (Nat.add_le_add_right TQ.out 1) (by decide)) ?_)
   intro v' w5 UQ hg5
   obtain⟨F5,r5⟩:=UQ.get 4 rfl
   obtain⟨a5,c5',rfl,-,-,-⟩:=ay.shape r5
   obtain⟨f5,c5,hr5⟩:=HX.out _ w5 UQ
   clear r5
   have vH:=Lib.hid hr5
   clear UQ hg5 hr5 G5 SB HX TQ
   go_wp2_with fail
   go_roundw
   case rel=>(try rw [hw2]);exact vH.out
   case measure=>(try rw [hw2]);exact dS hlt'
  ·have hge:(fs.length:Int)≤(k:Int):=Int.ofNat_le.2 (Nat.le_of_not_lt hlt)
   have hkl:fs.take k=fs:=List.take_of_length_le (Nat.le_of_not_lt hlt)
   rw [hkl] at dh
   obtain⟨bs,hbs⟩:∃ bs,bs=fs.map aj:=⟨_,rfl⟩
   rw [← hbs] at dh
   have HBS:=Lib.hid hbs
   have hb5:∀ b∈bs,b.length≤5000:=fun b hb=>by
    rw [hbs] at hb
    obtain⟨f,hf,rfl⟩:=List.mem_map.1 hb
    exact VT (oI.out f hf)
   have hvb:vs.length=bs.length:=by rw [hbs,List.length_map];omega
   have hbn:bs.length≤1000:=by rw [hbs,List.length_map];exact hnl
   obtain⟨Fv,hrv⟩:=dh.get 1 rfl
   obtain⟨av,cv,rfl,-,-,-⟩:=ay.shape hrv
   unfold WV at dh
   rw [hvb] at dh
   have h3:In F0 w0 wr (eH lb bd l::bJ bd d::Cells w.heap.size #[aF lb] 94::Cells (w.heap.size+1) #[.int .i64 ak] 3::Cells (w.heap.size+1+1) #[.slice av bs.length cv] 230::ay 65 1 (.slice av bs.length cv) bs.length vs::(bodB vs bs++R)):=(In.OY (X:=[_,_]) (B:=[_,_,_,_]) dh).aL (R1:=[_,_,_,_,_,_]) [4,5,3,2,0,1] (by decide) rfl
   have KS:=Lib.hid (BK h3 (Nat.le_trans MW.out.2 (by decide)))
   have z0:wr.cell? ⟨w.heap.size,0,none⟩=some (aF lb):=cell_of (h3.block 2 rfl) rfl
   have hlo1:=rM (s:=(d,l)) MW.out.1
   have YI:=kY (d,l)
   have hoo:=MW.out.2
   by_cases hz:(aY (d,l)).2=0
   ·have Co:=Lib.hid (DT ak bs (d,l) hz)
    generalize aY (d,l)=rs at *
    obtain⟨⟨d1,l1⟩,e1⟩:=rs
    simp only at hz KS hlo1 YI Co
    subst hz
    have ho1:d1.ops≤99900000:=by omega
    have HB:=Lib.hid (And.intro hlo1 (And.intro ho1 (And.intro hb5 (And.intro hbn hvb))))
    clear dh hrv h3 hb5 hbn hvb hlo1 YI hoo ho1 hbs hkl hlt hk hvs oI HV MW hnl
    go_wp2_with fail
    refine KS.out.mono ?_
    rintro e w1 ⟨rfl,g1⟩
    have z1:w1.cell? ⟨w.heap.size,0,none⟩=some (aF lb):=cell_of (g1.block 2 rfl) rfl
    obtain⟨pa,pc,g2⟩:=g1.lX
    have z4:w1.cell? ⟨lb,4,none⟩=some (.slice pa l1.m.aa.length pc):=cell_of (g2.block 1 rfl) rfl
    have g3:=(((((g2.Ji).dz 3 1).cells #[.slice none 0 0] 104).aL (R1:=[_,_]) [1,0] (by decide) rfl).xz (aa:=[])).cells #[.bool false] 4
    have g4:=g3.cells #[.func (.func 180) #[] #[.pointer (some ⟨w.heap.size,0,none⟩),.pointer (some ⟨w.heap.size+1+1,0,none⟩),.pointer (some ⟨w1.heap.size,0,none⟩)],.func (.func 182) #[] #[.pointer (some ⟨w.heap.size,0,none⟩),.pointer (some ⟨w.heap.size+1,0,none⟩),.pointer (some ⟨w1.heap.size,0,none⟩),.pointer (some ⟨w1.heap.size+1,0,none⟩)]] 79
    simp only [World.size_alloc] at g4
    have g5:=g4.aL (R1:=[_,_,_,_,_]) [0,3,4,2,1] (by decide) rfl
    have KA:=Lib.hid (Tk (ak:=ak) HB.out.2.2.2.2 HB.out.1 HB.out.2.1 HB.out.2.2.1 HB.out.2.2.2.1 _ rfl g5)
    clear g1 g2 g3 g4 g5 KS z0
    go_wp2_with fail
    refine KA.out.mono ?_
    rintro e w2 ⟨rfl,g7⟩
    have hops:=DU (ak:=ak) (l:=l1) (d:=d1) HB.out.2.2.1
    have hon:=Ti (ak:=ak) (bs:=bs) (l:=l1) (d:=d1)
    have hoff:=OX (ak:=ak) (bs:=bs) (l:=l1) (d:=d1)
    generalize swapT ak bs l1 d1=r at *
    have hlen1:l1.m.aa.length≤64:=(bQ.1 HB.out.1.2.2).1.2.2.2.1
    have Ng:∀ x∈l1.m.aa,x < 4611686018427387904:=fun x hx=>Nat.lt_trans (dY HB.out.1.2.2 hx).2.2 (by decide)
    have hnx1:l1.m.next≤1000000:=(bQ.1 HB.out.1.2.2).1.2.2.2.2.2
    have YJ:=HB.out.2.1
    have YK:=HB.out.2.2.2.1
    have Uu:=Lib.hid (And.intro hlen1 Ng)
    by_cases hr:r.2=0
    ·have h8:In F0 w0 w2 (eH lb bd r.1.l::bJ bd r.1.d::ay 3 1 (.slice pa l1.m.aa.length pc) l1.m.aa.length (cB l1.m.aa)::Cells (w1.heap.size+1) #[.bool true] 4::Cells w.heap.size #[aF lb] 94::Cells (w.heap.size+1) #[.int .i64 ak] 3::Cells (w.heap.size+1+1) #[.slice av bs.length cv] 230::ay 65 1 (.slice av bs.length cv) bs.length vs::(bodB vs bs++R)):=by
      unfold Tj at g7;rw [if_pos (hon hr)] at g7;exact g7
     have xM:Hid (∀ w',In F0 w0 w' (eH lb bd r.1.l::bJ bd (iD l1.m.aa r.1.d)::ay 3 1 (.slice pa l1.m.aa.length pc) l1.m.aa.length (cB l1.m.aa)::Cells (w1.heap.size+1) #[.bool true] 4::Cells w.heap.size #[aF lb] 94::Cells (w.heap.size+1) #[.int .i64 ak] 3::Cells (w.heap.size+1+1) #[.slice av bs.length cv] 230::ay 65 1 (.slice av bs.length cv) bs.length vs::(bodB vs bs++R))→oF lb bd (fD ak bs (d,l)) F0 w0 R (.returned (.int .i64 0)) w'):=Lib.hid fun w' h'=>by
      refine Gj (r:=kF l1 r) (Y:=[]) Co.out ?_ ?_
      ·unfold kF;rw [if_pos hr]
      ·unfold kF;rw [if_pos hr]
       exact In.zV (X:=[_,_]) (h'.aL (R1:=[_,_,_,_,_,_,_,_]) [0,1] (by decide) rfl)
     have HR2:Hid (Tn lb bd r.1.l r.1.d l1.m.aa (ay 3 1 (.slice pa l1.m.aa.length pc) l1.m.aa.length (cB l1.m.aa)::Cells (w1.heap.size+1) #[.bool true] 4::Cells w.heap.size #[aF lb] 94::Cells (w.heap.size+1) #[.int .i64 ak] 3::Cells (w.heap.size+1+1) #[.slice av bs.length cv] 230::ay 65 1 (.slice av bs.length cv) bs.length vs::(bodB vs bs++R)) F0 w0 (.int .i64 0) w2):=Lib.hid ⟨0,Nat.zero_le _,rfl,h8⟩
     have SQ:Hid (r.1.d.ops≤99999000):=Lib.hid (by omega)
     have HZ:=Lib.hid hr
     clear h8 g7 hon hoff hops hr KA HB Co hlen1 Ng hnx1 YJ YK z1 z4
     rw [HZ.out]
     go_wp2_with fail
     go_loopw [65] (Tn lb bd r.1.l r.1.d l1.m.aa (ay 3 1 (.slice pa l1.m.aa.length pc) l1.m.aa.length (cB l1.m.aa)::Cells (w1.heap.size+1) #[.bool true] 4::Cells w.heap.size #[aF lb] 94::Cells (w.heap.size+1) #[.int .i64 ak] 3::Cells (w.heap.size+1+1) #[.slice av bs.length cv] 230::ay 65 1 (.slice av bs.length cv) bs.length vs::(bodB vs bs++R)) F0 w0) (fun k _=>l1.m.aa.length - (intOf k).toNat)
     case atStart=>exact HR2.out
     case round=>
      obtain⟨j,hj,rfl,dh⟩:=hrel
      clear HR2
      by_cases hlt:j < l1.m.aa.length
      ·obtain⟨x,hx⟩:∃ x,l1.m.aa[j]?=some x:=⟨l1.m.aa[j],List.getElem?_eq_getElem hlt⟩
       obtain⟨Fs,hrow⟩:=dh.get 2 rfl
       obtain⟨b,rfl,c0⟩:=hrow.at.2 j _ (Gd hx)
       have hlt':(j:Int) < (l1.m.aa.length:Int):=Int.ofNat_lt.2 hlt
       have hw2:wrap64 ((j:Int)+1)=(j:Int)+1:=by have:=Uu.out.1;unfold wrap64;omega
       obtain⟨Q,hQ⟩:∃ Q,Q=(ay 3 1 (.slice (some ⟨b,0,none⟩) l1.m.aa.length pc) l1.m.aa.length (cB l1.m.aa)::Cells (w1.heap.size+1) #[.bool true] 4::Cells w.heap.size #[aF lb] 94::Cells (w.heap.size+1) #[.int .i64 ak] 3::Cells (w.heap.size+1+1) #[.slice av bs.length cv] 230::ay 65 1 (.slice av bs.length cv) bs.length vs::(bodB vs bs++R)):=⟨_,rfl⟩
       have hQ2:Q[2]?=some (Cells w.heap.size #[aF lb] 94):=by rw [hQ];rfl
       rw [← hQ] at dh ⊢
       have HN:=Lib.hid (fun w' h'=>VV (w:=w') (l:=r.1.l) (lb:=lb) (bd:=bd) (d:=r.1.d) (F0:=F0) (w0:=w0) (Q:=Q) hx h')
       have KN:=Lib.hid (pF (dh.drewN 1) x (Uu.out.2 x (List.mem_of_getElem? hx)))
       have KC:=Lib.hid (fun w' (h':In F0 w0 w' (eH lb bd r.1.l::bJ bd (iD (l1.m.aa.take j) r.1.d)::Q))=>yg h' 1 rfl (YG SQ.out (Nat.le_trans Uu.out.1 (by decide))) (ai x) (dx x))
       have zb:=Lib.hid (fun w' d' (h':In F0 w0 w' (eH lb bd r.1.l::bJ bd d'::Q))=>And.intro (show w'.cell? ⟨w.heap.size,0,none⟩=some (aF lb) from cell_of (h'.block 4 hQ2) rfl) h'.Lt)
       obtain⟨y0,y1⟩:=zb.out wr _ dh
       clear dh hrow hj hlt hx hQ hQ2
       go_wp2_with fail
       go_region_held3 (fun w'=>w'.cell? ⟨w.heap.size,0,none⟩=some (aF lb)∧w'.cell? ⟨lb,0,none⟩=some (aF bd)) (first | exact⟨hz1,hz2⟩ | exact⟨y0,y1⟩ | go_keep)
        (first
         | (go_at_call 123;refine KN.out.mono ?_;rintro e w3 ⟨rfl,g1⟩;obtain⟨hz1,hz2⟩:=zb.out w3 _ g1;have K1:=Lib.hid (KC.out w3 g1);clear g1)
         | (go_at_call 166;refine K1.out.mono ?_;rintro e w4 ⟨rfl,g2⟩;obtain⟨hz1,hz2⟩:=zb.out w4 _ g2;have vH:=Lib.hid (HN.out w4 g2);clear g2))
       go_wp2_with fail
       go_roundw
       case rel=>(try rw [hw2]);exact vH.out
       case measure=>(try rw [hw2]);exact dS hlt'
      ·have hge:(l1.m.aa.length:Int)≤(j:Int):=Int.ofNat_le.2 (Nat.le_of_not_lt hlt)
       have hkl:l1.m.aa.take j=l1.m.aa:=List.take_of_length_le (Nat.le_of_not_lt hlt)
       rw [hkl] at dh
       have G:=Lib.hid (xM.out wr dh)
       clear dh hkl hlt hj xM
       go_wp2_with fail
       go_ret
       have GG:=G.out
       rw [HBS.out] at GG
       exact GG
    ·have q:(r.2 == 0)=false:=beq_eq_false_iff_ne.2 hr
     cases hrn:r.1.on with
     | true=>
      have h8:In F0 w0 w2 (eH lb bd r.1.l::bJ bd r.1.d::ay 3 1 (.slice pa l1.m.aa.length pc) l1.m.aa.length (cB l1.m.aa)::Cells (w1.heap.size+1) #[.bool true] 4::Cells w.heap.size #[aF lb] 94::Cells (w.heap.size+1) #[.int .i64 ak] 3::Cells (w.heap.size+1+1) #[.slice av bs.length cv] 230::ay 65 1 (.slice av bs.length cv) bs.length vs::(bodB vs bs++R)):=by
       unfold Tj at g7;rw [if_pos hrn] at g7;exact g7
      have G:Hid (oF lb bd (fD ak bs (d,l)) F0 w0 R (.returned (.int .i64 r.2)) w2):=Lib.hid (by
       refine Gj (r:=kF l1 r) (Y:=[]) Co.out ?_ ?_
       ·unfold kF;rw [if_neg hr,if_pos hrn]
       ·unfold kF;rw [if_neg hr,if_pos hrn]
        exact In.zV (X:=[_,_]) (h8.aL (R1:=[_,_,_,_,_,_,_,_]) [0,1] (by decide) rfl))
      have y0:w2.cell? ⟨w1.heap.size+1,0,none⟩=some (.bool true):=cell_of (h8.block 3 rfl) rfl
      clear h8 g7 hon hoff hops hr KA HB Co hlen1 Ng hnx1 YJ YK z1 z4 hrn
      go_wp2_with fail
      go_ret
      have GG:=G.out
      rw [HBS.out] at GG
      exact GG
     | false=>
      have h8:In F0 w0 w2 (yD (.slice pa l1.m.aa.length pc) lb bd l1::bJ bd r.1.d::pO w1.heap.size r.1.aa::Cells (w1.heap.size+1) #[.bool false] 4::Cells w.heap.size #[aF lb] 94::Cells (w.heap.size+1) #[.int .i64 ak] 3::Cells (w.heap.size+1+1) #[.slice av bs.length cv] 230::ay 65 1 (.slice av bs.length cv) bs.length vs::(bodB vs bs++R)):=by
       unfold Tj at g7;rw [if_neg (by rw [hrn];simp)] at g7;exact g7
      obtain⟨sa,sc,h9⟩:=((h8.Cv).aL (R1:=[_,_,_]) [2,0,1] (by decide) rfl).rQ
      have y0:w2.cell? ⟨w1.heap.size+1,0,none⟩=some (.bool false):=cell_of (h9.block 4 rfl) rfl
      have y1:w2.cell? ⟨w.heap.size,0,none⟩=some (aF lb):=cell_of (h9.block 5 rfl) rfl
      have y2:w2.cell? ⟨w1.heap.size,0,none⟩=some (.slice sa r.1.aa.length sc):=cell_of (h9.block 1 rfl) rfl
      have KD:=Lib.hid (YC (h9.aL (R1:=[_,_,_,_]) [2,3,0,1] (by decide) rfl) (by omega) (by omega) (fun x hx=>by have:=hops.2.2 x hx;omega))
      have xM:Hid (∀ w',In F0 w0 w' (eH lb bd l1::bJ bd (dropD r.1.aa r.1.d)::ay 3 1 (.slice sa r.1.aa.length sc) r.1.aa.length (cB r.1.aa)::Cells w1.heap.size #[.slice sa r.1.aa.length sc] 104::Cells (w1.heap.size+1) #[.bool false] 4::Cells w.heap.size #[aF lb] 94::Cells (w.heap.size+1) #[.int .i64 ak] 3::Cells (w.heap.size+1+1) #[.slice av bs.length cv] 230::ay 65 1 (.slice av bs.length cv) bs.length vs::(bodB vs bs++R))→oF lb bd (fD ak bs (d,l)) F0 w0 R (.returned (.int .i64 r.2)) w'):=Lib.hid fun w' h'=>by
       refine Gj (r:=kF l1 r) (Y:=[]) Co.out ?_ ?_
       ·unfold kF;rw [if_neg hr,if_neg (by rw [hrn];simp)]
       ·unfold kF;rw [if_neg hr,if_neg (by rw [hrn];simp)]
        simp only
        rw [hoff hrn]
        exact In.zV (X:=[_,_]) (h'.aL (R1:=[_,_,_,_,_,_,_,_,_]) [0,1] (by decide) rfl)
      clear h8 h9 g7 hon hoff hops hr KA HB Co hlen1 Ng hnx1 YJ YK z1 z4 hrn
      go_wp2_with fail
      refine KD.out.mono ?_
      rintro e w3 ⟨rfl,g8⟩
      have G:=Lib.hid (xM.out w3 g8)
      clear g8 KD xM
      go_wp2_with fail
      go_ret
      have GG:=G.out
      rw [HBS.out] at GG
      exact GG
   ·have q:((aY (d,l)).2 != 0)=true:=by rw [bne_iff_ne];exact hz
    have HX:Hid (∀ w',In F0 w0 w' (eH lb bd (aY (d,l)).1.2::bJ bd (aY (d,l)).1.1::Cells w.heap.size #[aF lb] 94::Cells (w.heap.size+1) #[.int .i64 ak] 3::Cells (w.heap.size+1+1) #[.slice av bs.length cv] 230::ay 65 1 (.slice av bs.length cv) bs.length vs::(bodB vs bs++R))→oF lb bd (fD ak bs (d,l)) F0 w0 R (.returned (.int .i64 (aY (d,l)).2)) w'):=Lib.hid fun w' h'=>by
     rw [DX hz]
     exact⟨rfl,In.zV (X:=[_,_]) (h'.aL (R1:=[_,_,_,_,_,_]) [0,1] (by decide) rfl)⟩
    clear dh hrv h3 hb5 hbn hvb hlo1 YI hoo hbs hkl hlt hk hvs oI HV MW hnl hz
    go_wp2_with fail
    refine KS.out.mono ?_
    rintro e w1 ⟨rfl,g1⟩
    have G:=Lib.hid (HX.out w1 g1)
    clear g1 KS HX
    go_wp2_with fail
    go_ret
    have GG:=G.out
    rw [HBS.out] at GG
    exact GG
end
theorem Jl {l:List Rec} {s:eT} (h:(applyAll l s).2=0) (k:Nat):(applyAll (l.take k) s).2=0:=by
 rw [← List.take_append_drop k l,lG] at h
 by_cases hc:(applyAll (l.take k) s).2=0
 ·exact hc
 ·rw [if_pos hc] at h;exact absurd h hc
theorem Tp {l:List Rec} {s:eT} {k:Nat} {x:Rec} (h:(applyAll l s).2=0) (hx:l[k]?=some x):(aX (applyAll (l.take k) s).1 x).2=0:=by
 by_cases hc:(aX (applyAll (l.take k) s).1 x).2=0
 ·exact hc
 ·rw [FR hx (Jl h k) hc] at h;exact absurd h hc
section
variable {F0:List Nat} {w0 w:World} {R:List ax} {tb:Nat} {st:eT}
theorem VW {x:Rec} {Ax:Option Addr} {cx g:Nat} {W:World} (h2:W.heap[g]?=some (.cells #[.int .i64 x.kind,.int .u32 x.fl.t.src,.int .u32 x.fl.t.dst,.int .i64 x.fl.t.proto,.int .i64 x.fl.t.ag,.int .i64 x.fl.t.ah,.int .i64 x.fl.bk,.int .i64 x.fl.gen,.int .i64 x.fl.seen,.int .i64 x.gen,.slice Ax x.au.length cx,.int .i64 x.bk,.int .i64 x.till,.int .i64 x.count] 59 (0,0))):W.cell? ⟨g,0,none⟩=some (.int .i64 x.kind)∧W.cell? ⟨g,1,none⟩=some (.int .u32 x.fl.t.src)∧W.cell? ⟨g,2,none⟩=some (.int .u32 x.fl.t.dst)∧W.cell? ⟨g,3,none⟩=some (.int .i64 x.fl.t.proto)∧W.cell? ⟨g,4,none⟩=some (.int .i64 x.fl.t.ag)∧W.cell? ⟨g,5,none⟩=some (.int .i64 x.fl.t.ah)∧W.cell? ⟨g,6,none⟩=some (.int .i64 x.fl.bk)∧W.cell? ⟨g,7,none⟩=some (.int .i64 x.fl.gen)∧W.cell? ⟨g,8,none⟩=some (.int .i64 x.fl.seen)∧W.cell? ⟨g,9,none⟩=some (.int .i64 x.gen)∧W.cell? ⟨g,10,none⟩=some (.slice Ax x.au.length cx)∧W.cell? ⟨g,11,none⟩=some (.int .i64 x.bk)∧W.cell? ⟨g,12,none⟩=some (.int .i64 x.till)∧W.cell? ⟨g,13,none⟩=some (.int .i64 x.count):=
 ⟨cell_of h2 rfl,cell_of h2 rfl,cell_of h2 rfl,cell_of h2 rfl,cell_of h2 rfl,cell_of h2 rfl,cell_of h2 rfl,cell_of h2 rfl,cell_of h2 rfl,cell_of h2 rfl,cell_of h2 rfl,cell_of h2 rfl,cell_of h2 rfl,cell_of h2 rfl⟩
def Gl (st:eT) (ak:Int) (mb:Nat) (rv pv:Value) (F0:List Nat) (w0:World) (R:List ax) (v i:Value) (wr:World):Prop:=
 ∃ (k:Nat) (va:Option Addr) (vc:Nat),k≤(aS st).length∧i=.int .i64 k∧v=.slice va k vc∧In F0 w0 wr (uZ (.slice va k vc) ((dR ak st).take k)::iF mb (applyAll (((aS st).map (fun r=>dB r ak)).take k) aH).1::ay 59 14 rv (aS st).length (recsV pv (aS st))::gq pv st.au::R)
theorem In.VX {vs:List Value} {fs:List cz} {f:cz} {v v':Value} {Q:List ax} (hl:vs.length=fs.length) (h:In F0 w0 w (ay 86 3 v' (fs.length+1) (flatFr fs vs++wC f v)::nz v f::(bodiesR vs fs++Q))):In F0 w0 w (uZ v' (fs++[f])::Q):=by
 refine uh (vs:=vs++[v]) (by simp [hl]) ?_
 rw [sI _ _ hl,rD _ _ hl,List.length_append]
 refine h.perm (List.Perm.cons _ ?_)
 rw [List.append_assoc]
 exact List.perm_middle.symm
theorem Tq {ak:Int} (hv:di ak=true) (i0:Nat) (hA:R[i0]?=some (iF tb st)) (h:In F0 w0 w R) :
  Calls Tryz.prog 104 #[pR tb,.int .i64 ak] w fun e w'=>∃ a c mb,e=.returned (.tuple #[.slice a (dR ak st).length c,pR mb,.int .i64 0])∧In F0 w0 w' (uZ (.slice a (dR ak st).length c) (dR ak st)::iF mb (eG ak st)::R):=by
 have hok:gm st:=by
  obtain⟨F,hF⟩:=h.get i0 hA
  obtain⟨dm,fm,bv,hok,_⟩:=hF
  exact hok
 have K1:=Lib.hid (zP h)
 have K2:Hid (∀ mb w',In F0 w0 w' (iF mb aH::R)→Calls Tryz.prog 42 #[pR tb] w' fun e w''=>∃ v pv,e=.returned v∧In F0 w0 w'' (ay 59 14 v (aS st).length (recsV pv (aS st))::gq pv st.au::iF mb aH::R)):=Lib.hid (fun mb w' h'=>FN h' (i0+1) hA)
 have YL:=Lib.hid (Mo hok hv)
 have oI:=Lib.hid hok
 have HV:=Lib.hid hv
 have hlen:=rq hok
 have hrl:(dR ak st).length=(aS st).length:=by simp [dR]
 clear h hok hv hA
 go_enter Tryz.func104,Tryz.ntmps104
 go_wp2_with fail
 refine K1.out.mono ?_
 rintro e w1 ⟨mb,rfl,g1⟩
 have K3:=Lib.hid (K2.out mb w1 g1)
 clear g1 K1 K2
 go_wp2_with fail
 refine K3.out.mono ?_
 rintro e w2 ⟨rv,pv,rfl,g2⟩
 obtain⟨Fr,rr⟩:=g2.get 0 rfl
 obtain⟨ra,rc,rfl,-,-,-⟩:=ay.shape rr
 obtain⟨Fp,rp⟩:=g2.get 1 rfl
 obtain⟨pa,pc,rfl,-,-,-⟩:=ay.shape rp
 have HN:Hid (pa=none→pc=0):=Lib.hid (fun e=>ay.Jz rp e)
 have HR:Hid (Gl st ak mb (.slice ra (aS st).length rc) (.slice pa st.au.length pc) F0 w0 R (.slice none 0 0) (.int .i64 0) w2):=Lib.hid ⟨0,none,0,Nat.zero_le _,rfl,rfl,by
  have g3:=uh (vs:=[]) (fs:=[]) rfl ((g2.aL (R1:=[_,_,_]) [2,0,1] (by decide) rfl).dz 86 3)
  exact g3⟩
 clear g2 K3 rr rp
 go_wp2_with fail
 go_loopw [7,17] (Gl st ak mb (.slice ra (aS st).length rc) (.slice pa st.au.length pc) F0 w0 R) (fun _ k _=>(aS st).length - (intOf k).toNat)
 case atStart=>exact HR.out
 case round=>
  obtain⟨k,va,vc,hk,rfl,rfl,dh⟩:=hrel
  clear HR
  by_cases hlt:k < (aS st).length
  ·obtain⟨x,hx⟩:∃ x,(aS st)[k]?=some x:=⟨(aS st)[k],List.getElem?_eq_getElem hlt⟩
   obtain⟨Fr,rr⟩:=dh.get 2 rfl
   obtain⟨gr,o,rfl,sc⟩:=rr.all.plain (by omega) (by decide)
   obtain⟨Ax,cx,hpx,hnx,hbx⟩:∃ Ax cx,(if k=0 then (Value.slice pa st.au.length pc) else .slice none 0 0)=.slice Ax x.au.length cx∧(Ax=none→cx=0)∧gZ F0 w0 (ay 59 14 (.slice (some ⟨gr,o,none⟩) (aS st).length rc) (aS st).length (recsV (.slice pa st.au.length pc) (aS st))::gq (.slice pa st.au.length pc) st.au::R) Ax x.au:=by
    rcases zS hx with ⟨rfl,e⟩|⟨h0,e⟩
    ·refine⟨pa,pc,by rw [if_pos rfl,e],HN.out,?_⟩
     rw [e]
     exact fun w' h'=>by obtain⟨F',r'⟩:=h'.get 1 rfl;exact r'.all
    ·refine⟨none,0,by rw [if_neg h0,e];rfl,fun _=>rfl,?_⟩
     rw [e]
     exact fun w' h'=>Src.nil _ _ _
   have c0:wr.cell? ⟨gr,o+k * 14,none⟩=some (.int .i64 x.kind):=by
    have:=sc (k * 14+0) _ (by rw [dH hx 0 (by decide),hpx];rfl)
    rwa [← Nat.add_assoc] at this
   have c1:wr.cell? ⟨gr,o+k * 14+1,none⟩=some (.int .u32 x.fl.t.src):=by
    have:=sc (k * 14+1) _ (by rw [dH hx 1 (by decide),hpx];rfl)
    rwa [← Nat.add_assoc] at this
   have c2:wr.cell? ⟨gr,o+k * 14+2,none⟩=some (.int .u32 x.fl.t.dst):=by
    have:=sc (k * 14+2) _ (by rw [dH hx 2 (by decide),hpx];rfl)
    rwa [← Nat.add_assoc] at this
   have c3:wr.cell? ⟨gr,o+k * 14+3,none⟩=some (.int .i64 x.fl.t.proto):=by
    have:=sc (k * 14+3) _ (by rw [dH hx 3 (by decide),hpx];rfl)
    rwa [← Nat.add_assoc] at this
   have c4:wr.cell? ⟨gr,o+k * 14+4,none⟩=some (.int .i64 x.fl.t.ag):=by
    have:=sc (k * 14+4) _ (by rw [dH hx 4 (by decide),hpx];rfl)
    rwa [← Nat.add_assoc] at this
   have c5:wr.cell? ⟨gr,o+k * 14+5,none⟩=some (.int .i64 x.fl.t.ah):=by
    have:=sc (k * 14+5) _ (by rw [dH hx 5 (by decide),hpx];rfl)
    rwa [← Nat.add_assoc] at this
   have c6:wr.cell? ⟨gr,o+k * 14+6,none⟩=some (.int .i64 x.fl.bk):=by
    have:=sc (k * 14+6) _ (by rw [dH hx 6 (by decide),hpx];rfl)
    rwa [← Nat.add_assoc] at this
   have c7:wr.cell? ⟨gr,o+k * 14+7,none⟩=some (.int .i64 x.fl.gen):=by
    have:=sc (k * 14+7) _ (by rw [dH hx 7 (by decide),hpx];rfl)
    rwa [← Nat.add_assoc] at this
   have c8:wr.cell? ⟨gr,o+k * 14+8,none⟩=some (.int .i64 x.fl.seen):=by
    have:=sc (k * 14+8) _ (by rw [dH hx 8 (by decide),hpx];rfl)
    rwa [← Nat.add_assoc] at this
   have c9:wr.cell? ⟨gr,o+k * 14+9,none⟩=some (.int .i64 x.gen):=by
    have:=sc (k * 14+9) _ (by rw [dH hx 9 (by decide),hpx];rfl)
    rwa [← Nat.add_assoc] at this
   have c10:wr.cell? ⟨gr,o+k * 14+10,none⟩=some (.slice Ax x.au.length cx):=by
    have:=sc (k * 14+10) _ (by rw [dH hx 10 (by decide),hpx];rfl)
    rwa [← Nat.add_assoc] at this
   have c11:wr.cell? ⟨gr,o+k * 14+11,none⟩=some (.int .i64 x.bk):=by
    have:=sc (k * 14+11) _ (by rw [dH hx 11 (by decide),hpx];rfl)
    rwa [← Nat.add_assoc] at this
   have c12:wr.cell? ⟨gr,o+k * 14+12,none⟩=some (.int .i64 x.till):=by
    have:=sc (k * 14+12) _ (by rw [dH hx 12 (by decide),hpx];rfl)
    rwa [← Nat.add_assoc] at this
   have c13:wr.cell? ⟨gr,o+k * 14+13,none⟩=some (.int .i64 x.count):=by
    have:=sc (k * 14+13) _ (by rw [dH hx 13 (by decide),hpx];rfl)
    rwa [← Nat.add_assoc] at this
   have hlt':(k:Int) < ((aS st).length:Int):=Int.ofNat_lt.2 hlt
   have hw2:wrap64 ((k:Int)+1)=(k:Int)+1:=by unfold wrap64;omega
   obtain⟨wx1,wx2,wx3⟩:=nS.recs oI.out x (List.mem_of_getElem? hx)
   have hbl:x.au.length≤1000000:=by
    have:=(oI.out.lens).1
    rcases zS hx with ⟨_,e⟩|⟨_,e⟩ <;> rw [e]
    ·omega
    ·exact Nat.zero_le _
   have henc:=(qU wx1 HV.out wx2).1
   have Xi:(dR ak st)[k]?=some (dI x ak).1:=by simp [dR,hx]
   have hik:((aS st).map (fun r=>dB r ak))[k]?=some (dB x ak):=by simp [hx]
   have hstep:=Tp (by rw [YL.out]) hik
   have hsn:=BO hik (Jl (by rw [YL.out]) k) hstep
   have htk:(dR ak st).take (k+1)=(dR ak st).take k++[(dI x ak).1]:=by rw [List.take_add_one,Xi];rfl
   have hfl:((dR ak st).take k).length=k:=by rw [List.length_take,hrl];omega
   have g1:=dh.cells #[.int .i64 x.kind,.int .u32 x.fl.t.src,.int .u32 x.fl.t.dst,.int .i64 x.fl.t.proto,.int .i64 x.fl.t.ag,.int .i64 x.fl.t.ah,.int .i64 x.fl.bk,.int .i64 x.fl.gen,.int .i64 x.fl.seen,.int .i64 x.gen,.slice Ax x.au.length cx,.int .i64 x.bk,.int .i64 x.till,.int .i64 x.count] 59
   have KE:=(EP (r:=x) (c:=cx) ak (hbx.rV [Cells wr.heap.size #[.int .i64 x.kind,.int .u32 x.fl.t.src,.int .u32 x.fl.t.dst,.int .i64 x.fl.t.proto,.int .i64 x.fl.t.ag,.int .i64 x.fl.t.ah,.int .i64 x.fl.bk,.int .i64 x.fl.gen,.int .i64 x.fl.seen,.int .i64 x.gen,.slice Ax x.au.length cx,.int .i64 x.bk,.int .i64 x.till,.int .i64 x.count] 59,uZ (.slice va k vc) ((dR ak st).take k),iF mb (applyAll (((aS st).map (fun r=>dB r ak)).take k) aH).1]) wx1 hbl g1)
   have HM:=Lib.hid (dS hlt')
   have HK:Hid (k+1≤(aS st).length):=Lib.hid hlt
   have PD:=Lib.hid hsn
   have Zl:=Lib.hid htk
   have Zn:=Lib.hid hfl
   have YE:=Lib.hid hnx
   have HBX:=Lib.hid hbx
   have HW1:=Lib.hid wx1
   clear dh hx hk rr sc hpx hnx hbx g1 Xi hik hstep hsn htk hfl wx1 wx2 wx3 hlt
   rw [show dI x ak=((dI x ak).1,0) from by rw [← henc]] at KE
   replace KE:=Lib.hid KE
   clear henc
   generalize (dR ak st).take k=fs at *
   generalize (applyAll (((aS st).map (fun r=>dB r ak)).take k) aH).1=t at *
   generalize (dI x ak).1=fr at *
   go_wp2_with fail
   refine KE.out.mono ?_
   rintro e w3 ⟨v,rfl,g3⟩
   have Xi:=Zn.out
   clear Zn
   subst Xi
   obtain⟨vs,hvs,g4⟩:=(g3.aL (R1:=[_,_,_,_,_,_]) [2,0,1,3,4,5] (by decide) rfl).FV
   have g5:=g4.perm (List.Perm.cons _ (List.perm_append_comm (l₁:=bodiesR vs fs) (l₂:=nz v fr::Cells wr.heap.size #[.int .i64 x.kind,.int .u32 x.fl.t.src,.int .u32 x.fl.t.dst,.int .i64 x.fl.t.proto,.int .i64 x.fl.t.ag,.int .i64 x.fl.t.ah,.int .i64 x.fl.bk,.int .i64 x.fl.gen,.int .i64 x.fl.seen,.int .i64 x.gen,.slice Ax x.au.length cx,.int .i64 x.bk,.int .i64 x.till,.int .i64 x.count] 59::iF mb t::ay 59 14 (.slice (some ⟨gr,o,none⟩) (aS st).length rc) (aS st).length (recsV (.slice pa st.au.length pc) (aS st))::gq (.slice pa st.au.length pc) st.au::R)))
   obtain⟨Fv,rv⟩:=g5.get 1 rfl
   obtain⟨bv,bc,rfl,-,-,-⟩:=ay.shape rv
   have g6:=(g5.cells #[.int .i64 fr.kind,.int .i64 fr.ak,.slice bv fr.body.length bc] 86).cells #[.int .i64 fr.kind,.int .i64 fr.ak,.slice bv fr.body.length bc] 86
   simp only [World.size_alloc] at g6
   have SB:=Lib.hid (Src.of_block (k:=3) (g6.block 0 rfl) rfl)
   have H6:=Lib.hid g6
   have TQ:=Lib.hid hvs
   clear g3 g4 g5 g6 rv hvs KE
   go_wp2_with (at_builtin;refine iG rfl H6.out 2 rfl (.tmp 30) (.tmp 32) 175 (by rfl) Tryz.underlying175 CZ (by decide) (by decide) (by rfl) (by rfl) SB.out (fun u hu=>by simp at hu;rcases hu with rfl | rfl | rfl <;> rfl) (by have:=HK.out;omega) ?_)
   intro v' w5 ho hg
   obtain⟨Fw,hw⟩:=ho.get 2 rfl
   obtain⟨aw,cw,rfl,-,-,-⟩:=hw.shape
   have g7:In F0 w0 w5 (uZ (.slice aw (fs.length+1) cw) (fs++[fr])::Cells wr.heap.size #[.int .i64 x.kind,.int .u32 x.fl.t.src,.int .u32 x.fl.t.dst,.int .i64 x.fl.t.proto,.int .i64 x.fl.t.ag,.int .i64 x.fl.t.ah,.int .i64 x.fl.bk,.int .i64 x.fl.gen,.int .i64 x.fl.seen,.int .i64 x.gen,.slice Ax x.au.length cx,.int .i64 x.bk,.int .i64 x.till,.int .i64 x.count] 59::iF mb t::ay 59 14 (.slice (some ⟨gr,o,none⟩) (aS st).length rc) (aS st).length (recsV (.slice pa st.au.length pc) (aS st))::gq (.slice pa st.au.length pc) st.au::R):=In.VX TQ.out (ho.drop.drop.perm (List.Perm.cons _ (List.Perm.cons _ (List.perm_append_comm (l₁:=Cells wr.heap.size #[.int .i64 x.kind,.int .u32 x.fl.t.src,.int .u32 x.fl.t.dst,.int .i64 x.fl.t.proto,.int .i64 x.fl.t.ag,.int .i64 x.fl.t.ah,.int .i64 x.fl.bk,.int .i64 x.fl.gen,.int .i64 x.fl.seen,.int .i64 x.gen,.slice Ax x.au.length cx,.int .i64 x.bk,.int .i64 x.till,.int .i64 x.count] 59::iF mb t::ay 59 14 (.slice (some ⟨gr,o,none⟩) (aS st).length rc) (aS st).length (recsV (.slice pa st.au.length pc) (aS st))::gq (.slice pa st.au.length pc) st.au::R) (l₂:=bodiesR vs fs)))))
   have hy:=VW (g7.block 1 rfl)
   obtain⟨y0,y1,y2,y3,y4,y5,y6,y7,y8,y9,mh,ow,oz,y13⟩:=hy
   have KI:=Lib.hid (Kl (r:=x) (c:=cx) ak (HBX.out.rV [uZ (.slice aw (fs.length+1) cw) (fs++[fr]),Cells wr.heap.size #[.int .i64 x.kind,.int .u32 x.fl.t.src,.int .u32 x.fl.t.dst,.int .i64 x.fl.t.proto,.int .i64 x.fl.t.ag,.int .i64 x.fl.t.ah,.int .i64 x.fl.bk,.int .i64 x.fl.gen,.int .i64 x.fl.seen,.int .i64 x.gen,.slice Ax x.au.length cx,.int .i64 x.bk,.int .i64 x.till,.int .i64 x.count] 59,iF mb t]) YE.out hbl g7)
   have HIB:Hid ((dB x ak).au.length≤1000000):=Lib.hid (Nat.le_trans (DR _ _) hbl)
   have HIW:=Lib.hid (nS.dB HW1.out ak)
   clear ho hg hw g7 H6 SB TQ
   go_wp2_with fail
   refine KI.out.mono ?_
   rintro e w6 ⟨pv2,rfl,g8⟩
   obtain⟨Fp,rp⟩:=g8.get 0 rfl
   obtain⟨pa2,pc2,rfl,-,-,-⟩:=ay.shape rp
   have KP:=Lib.hid (xk (r:=dB x ak) (A:=pa2) (c:=pc2) (xh rfl 0 rfl) (fun e=>ay.Jz rp e) HIB.out HIW.out (g8.aL (R1:=[_,_,_,_,_,_]) [3,0,1,2,4,5] (by decide) rfl))
   clear g8 rp KI y0 y1 y2 y3 y4 y5 y6 y7 y8 y9 mh ow oz y13
   go_wp2_with fail
   refine KP.out.mono ?_
   rintro e w7 ⟨rfl,g9⟩
   have HR:Hid (Gl st ak mb (.slice (some ⟨gr,o,none⟩) (aS st).length rc) (.slice pa st.au.length pc) F0 w0 R (.slice aw (fs.length+1) cw) (.int .i64 ((fs.length:Int)+1)) w7):=Lib.hid ⟨fs.length+1,aw,cw,HK.out,by rw [Int.natCast_add];rfl,rfl,by
    rw [Zl.out,PD.out]
    exact g9.aL (R1:=[_,_,_,_,_,_]) [2,0,4,5] (by decide) rfl⟩
   clear g9 KP PD Zl
   go_wp2_with fail
   go_roundw
   case rel=>(try rw [hw2]);exact HR.out
   case measure=>(try rw [hw2]);exact HM.out
  ·have hge:((aS st).length:Int)≤(k:Int):=Int.ofNat_le.2 (Nat.le_of_not_lt hlt)
   have hkl:k=(aS st).length:=by omega
   subst hkl
   have G:Hid (In F0 w0 wr (uZ (.slice va (aS st).length vc) (dR ak st)::iF mb (eG ak st)::R)):=Lib.hid (by
    have:=dh.aL (R1:=[_,_,_,_]) [0,1] (by decide) rfl
    rw [List.take_of_length_le (Nat.le_of_eq hrl),List.take_of_length_le (by simp),YL.out] at this
    exact this)
   have HRL:=Lib.hid hrl
   clear dh hlt hk hrl
   go_wp2_with fail
   exact bodyPost_ret (results_tmp3 Tryz.results104 _ _ _) rfl ⟨va,vc,mb,by rw [HRL.out];rfl,by rw [HRL.out];exact G.out⟩
end
end Go.Proofs.YtanhdliaaccacaaGreat
