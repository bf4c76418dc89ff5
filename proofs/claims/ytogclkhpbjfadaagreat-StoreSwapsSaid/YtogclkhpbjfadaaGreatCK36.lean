/- Parts of the proofs that a compaction keeps what lives, and done again is as once. -/
import Derived.Test.YtogclkhpbjfadaaGreatCK35
import Derived.Test.YtogclkhpbjfadaaGreatCK33
import Derived.Deep.DeepCutAuto
namespace Go.Proofs.YtogclkhpbjfadaaGreat
open Go.RowKit
set_option linter.unusedVariables false
set_option maxHeartbeats 64000000
set_option maxRecDepth 100000
theorem OL:(Tryz.prog.info? 23).map (fun i=>(i.zero.map (fun z=>z.cells.size),i.size,i.bytes))=some (some 1,1,24):=by kernel_rfl
theorem DX:∀ {vs:List Value} {bs:List (List UInt8)} (v:Value) (b:List UInt8),vs.length=bs.length→bodB (vs++[v]) (bs++[b])=bodB vs bs++[ay 5 1 v b.length (eD b)]
 | [],[],v,b,_=>rfl
 | [],_::_,_,_,h=>by simp at h
 | _::_,[],_,_,h=>by simp at h
 | x::vs,y::bs,v,b,h=>by
  simp only [List.cons_append,bodB]
  rw [DX v b (by simpa using h)]
theorem tJ:∀ (l:List Nat) (d:ae),(iB l d).ops≤d.ops+l.length
 | [],d=>Nat.le_refl _
 | x::r,d=>by
  have h1:=tJ r (cZ d (ai x)).1
  have h2:=(Ex d (ai x) (ai x) [] 0).2.2.2.2.1
  simp only [iB,List.length_cons];omega
theorem DY {f:cB} (h:jI f):gq f.kind f.aj f.body.length=0:=by
 obtain⟨h1,h2,h3⟩:=h
 unfold gq
 rw [if_neg (by omega),if_neg (by omega)]
theorem VQ {f:cB} (h:jI f):xG f.kind f.aj f.body=ak f:=by
 unfold xG;rw [if_pos (DY h)];rfl
theorem VR {f:cB} (h:jI f):(ak f).length≤5000:=by
 obtain⟨h1,h2,h3⟩:=h
 rw [dD];show 16+f.body.length≤5000;omega
section
variable {F0:List Nat} {w0 w:World} {R:List az} {pn:Value} {bd lb sb:Nat} {d:ae} {l:bK}
theorem In.zU {X A:List az} (h:In F0 w0 w (X++(A++R))):In F0 w0 w (X++R):=by
 have h1:In F0 w0 w (A++(X++R)):=by
  refine h.perm ?_
  rw [← List.append_assoc,← List.append_assoc]
  exact List.perm_append_comm.append_right R
 exact h1.right
abbrev WQ (bx vx lx lb bd aj:Nat) (l:bK) (d:ae) (v:Value) (vs:List Value) (bss:List (List UInt8)) (R:List az):List az:=
 Cells bx #[v] 22::ay 23 1 v vs.length vs::(bodB vs bss++([Cells vx #[.int .i64 aj] 3,Cells lx #[aD lb] 28,eB lb bd l,bJ bd d]++R))
def MM (bx vx lx lb bd aj:Nat) (l:bK) (d:ae) (fs:List cB) (F0:List Nat) (w0:World) (R:List az) (i:Value) (wr:World):Prop:=
 ∃ (k:Nat) (v:Value) (vs:List Value),k≤fs.length∧i=.int .i64 k∧vs.length=k∧In F0 w0 wr (WQ bx vx lx lb bd aj l d v vs ((fs.take k).map ak) R)
theorem WQ.rest {bx vx lx aj:Nat} {v:Value} {vs:List Value} {bss:List (List UInt8)} (h:In F0 w0 w (WQ bx vx lx lb bd aj l d v vs bss R)):In F0 w0 w R:=
 (In.right (R1:=bodB vs bss) (h.drop.drop)).drop.drop.drop.drop
theorem VS {bx vx lx aj nb bb:Nat} {C C2:Array Value} {ty Jr:Nat} {v v1:Value} {vs:List Value} {fs:List cB} {k:Nat} {f:cB} {bss:List (List UInt8)} (Tj:bss=(fs.take k).map ak) (hf:fs[k]?=some f) (hvs:vs.length=k)
  (h:In F0 w0 w (Cells bb C2 Jr::ay 5 1 v1 (ak f).length (eD (ak f))::Cells nb C ty::Cells bx #[v] 22::ay 23 1 v (vs++[v1]).length (vs++[v1])::(bodB vs bss++([Cells vx #[.int .i64 aj] 3,Cells lx #[aD lb] 28,eB lb bd l,bJ bd d]++R)))) :
  MM bx vx lx lb bd aj l d fs F0 w0 R (.int .i64 ((k:Int)+1)) w:=by
 subst Tj
 have hk:=(List.getElem?_eq_some_iff.1 hf).1
 refine⟨k+1,v,vs++[v1],hk,by rw [Int.natCast_add];rfl,by simp [hvs],?_⟩
 have h1:=h.aI (R1:=[_,_,_,_,_]) [3,4,1] (by decide) rfl
 have h2:=In.OJ (X:=[_,_]) (A:=[_]) h1
 unfold WQ
 rw [List.take_add_one,hf]
 simp only [Option.toList_some,List.map_append,List.map_cons,List.map_nil]
 rw [DX v1 (ak f) (by simp [hvs];omega),List.append_assoc]
 exact h2
def Tk (lb bd:Nat) (l:bK) (d:ae) (aa:List Nat) (Q:List az) (F0:List Nat) (w0:World) (i:Value) (wr:World):Prop:=
 ∃ k:Nat,k≤aa.length∧i=.int .i64 k∧In F0 w0 wr (eB lb bd l::bJ bd (iB (aa.take k) d)::Q)
theorem VT {aa:List Nat} {k x:Nat} {Q:List az} (hx:aa[k]?=some x) (h:In F0 w0 w (eB lb bd l::bJ bd (cZ (iB (aa.take k) d) (ai x)).1::Q)):Tk lb bd l d aa Q F0 w0 (.int .i64 ((k:Int)+1)) w:=by
 refine⟨k+1,(List.getElem?_eq_some_iff.1 hx).1,by rw [Int.natCast_add];rfl,?_⟩
 rw [List.take_add_one,hx]
 show In F0 w0 w (eB lb bd l::bJ bd (iB (aa.take k++[x]) d)::_)
 rw [xu];exact h
theorem YA {aa:List Nat} {k:Nat} (ho:d.ops≤99999000) (hs:aa.length≤100):(iB (aa.take k) d).ops≤100000000:=by
 have:=tJ (aa.take k) d
 rw [List.length_take] at this;omega
def FrU (F0:List Nat) (w0:World) (R:List az) (a:Option Addr) (fs:List cB):Prop:=∀ k f,fs[k]?=some f→∃ g o A c,a=some ⟨g,o,none⟩∧∀ w',In F0 w0 w' R→Lu w' g (o+k * 3) f A c
def ou (lb bd:Nat) (r:DL×Int) (F0:List Nat) (w0:World) (R:List az) (e:Ending) (w':World):Prop:=
 e=.returned (.int .i64 r.2)∧In F0 w0 w' (eB lb bd r.1.2::bJ bd r.1.1::R)
theorem DZ {aj:Nat} {bs:List (List UInt8)} {s:DL} (h:(aY s).2≠0):gM aj bs s=aY s:=by
 unfold gM;rw [if_pos h]
theorem Gj {r r':DL×Int} {e:Ending} {Y:List az} (hr:r'=r) (he:e=.returned (.int .i64 r.2)) (h:In F0 w0 w (eB lb bd r.1.2::bJ bd r.1.1::R)):ou lb bd r' F0 w0 R e w:=by
 subst hr;exact⟨he,h⟩
theorem YB {fs:List cB} {a:Option Addr} {c aj:Nat} (h:In F0 w0 w (eB lb bd l::bJ bd d::R)) (hl:gH l) (ho:d.ops≤99000000) (mr:1≤aj∧aj≤3) (hv:FrU F0 w0 R a fs) (hok:∀ f∈fs,jI f) (hn:fs.length≤1000) :
  Calls Tryz.prog 27 #[aD lb,.int .i64 aj,.slice a fs.length c] w (ou lb bd (gM aj (fs.map ak) (d,l)) F0 w0 R):=by
 have QK:∀ (fn:Fn) (first cap:Array Value) (w:World),(Instr.makeFunc fn first cap).run Tryz.prog w=.ok (.func fn first cap) w:=fun _ _ _ _=>rfl
 have h1:=(((h.dG 23 1).cells #[aD lb] 28).cells #[.int .i64 aj] 3).cells #[.slice none 0 0] 22
 simp only [World.size_alloc] at h1
 have q1:decide ((aj:Int) < 1)=false:=decide_eq_false (by omega)
 have q2:decide ((3:Int) < (aj:Int))=false:=decide_eq_false (by omega)
 obtain⟨n0,hn0⟩:∃ n0,n0=w.heap.size:=⟨_,rfl⟩
 rw [← hn0] at h1
 have HR:Hid (MM (n0+1+1) (n0+1) n0 lb bd aj l d fs F0 w0 R (.int .i64 0) _):=Lib.hid ⟨0,.slice none 0 0,[],Nat.zero_le _,rfl,rfl,h1.aI (R1:=[_,_,_,_,_,_]) [0,3,1,2,4,5] (by decide) rfl⟩
 have HV:=Lib.hid hv
 have mD:=Lib.hid hok
 have hnl:fs.length≤1000:=hn
 have MH:=Lib.hid (And.intro hl ho)
 clear h h1 hl ho hv hok hn mr
 go_enter Tryz.func27,Tryz.ntmps27
 rw [hn0] at HR
 go_wp2_with fail
 go_loopw [29] (MM (w.heap.size+1+1) (w.heap.size+1) w.heap.size lb bd aj l d fs F0 w0 R) (fun k _=>fs.length - (intOf k).toNat)
 case atStart=>exact HR.out
 case round=>
  obtain⟨k,v,vs,hk,rfl,hvs,dC⟩:=hrel
  clear HR
  by_cases hlt:k < fs.length
  ·obtain⟨bss,Tj⟩:∃ bss,bss=(fs.take k).map ak:=⟨_,rfl⟩
   rw [← Tj] at dC
   obtain⟨f,hf⟩:∃ f,fs[k]?=some f:=⟨fs[k],List.getElem?_eq_getElem hlt⟩
   have hfo:=mD.out f (List.mem_of_getElem? hf)
   obtain⟨g,o,A,cA,rfl,hfu⟩:=HV.out k f hf
   have hfc:=hfu wr (WQ.rest dC)
   have c0:=hfc.kind
   have c1:=hfc.aj
   have c2:=hfc.val
   have hlt':(k:Int) < (fs.length:Int):=Int.ofNat_lt.2 hlt
   have hw2:wrap64 ((k:Int)+1)=(k:Int)+1:=by unfold wrap64;omega
   have h2:=dC.cells #[.int .i64 f.kind,.int .i64 f.aj,.slice A f.body.length cA] 40
   have KP:=Et (c:=cA) (A:=A) h2 f.kind f.aj (body:=f.body) (Nat.le_trans hfo.3 (by decide)) (fun w' h'=>(hfu w' (WQ.rest h'.drop)).body)
   unfold zA at KP
   rw [DY hfo,VQ hfo] at KP
   have KP':=Lib.hid KP
   have HN:=Lib.hid (fun bb C2 Jr v1 v w' h'=>VS (F0:=F0) (w0:=w0) (w:=w') (R:=R) (lb:=lb) (bd:=bd) (l:=l) (d:=d) (bx:=w.heap.size+1+1) (vx:=w.heap.size+1) (lx:=w.heap.size) (aj:=aj) (nb:=wr.heap.size) (bb:=bb) (C:=#[.int .i64 f.kind,.int .i64 f.aj,.slice A f.body.length cA]) (C2:=C2) (ty:=40) (Jr:=Jr) (v:=v) (v1:=v1) (vs:=vs) (fs:=fs) Tj hf hvs h')
   clear h2 KP hfc hfu dC hf hfo hk hlt Tj
   go_wp2_with fail
   refine KP'.out.mono ?_
   rintro e w1 ⟨v1,rfl,g1⟩
   obtain⟨F1,r1⟩:=g1.get 0 rfl
   obtain⟨a1,c1',rfl,-,-,-⟩:=r1.shape
   have y0:w1.cell? ⟨w.heap.size+1+1,0,none⟩=some v:=cell_of (g1.block 2 rfl) rfl
   obtain⟨F2,r2⟩:=g1.get 3 rfl
   obtain⟨a2,c2',rfl,-,-,-⟩:=r2.shape
   have g5:=g1.cells #[.slice a1 (ak f).length c1'] 23
   have G5:=Lib.hid g5
   have SB:=Lib.hid (Src.of_block (k:=1) (g5.block 0 rfl) rfl)
   have HX:Hid (∀ v' w5,In F0 w0 w5 ((Cells w1.heap.size #[.slice a1 (ak f).length c1'] 23::ay 5 1 (.slice a1 (ak f).length c1') (ak f).length (eD (ak f))::Cells wr.heap.size #[.int .i64 f.kind,.int .i64 f.aj,.slice A f.body.length cA] 40::WQ (w.heap.size+1+1) (w.heap.size+1) w.heap.size lb bd aj l d (.slice a2 vs.length c2') vs bss R).set 4 (ay 23 1 v' (vs.length+1) (vs++[.slice a1 (ak f).length c1']))) →
    w5.frozen? ⟨w.heap.size+1+1,0,none⟩=false∧w5.cell? ⟨w.heap.size+1+1,0,none⟩=some (.slice a2 vs.length c2')∧MM (w.heap.size+1+1) (w.heap.size+1) w.heap.size lb bd aj l d fs F0 w0 R (.int .i64 ((k:Int)+1)) (w5.setCell ⟨w.heap.size+1+1,0,none⟩ v')):=Lib.hid fun v' w5 h5=>
     ⟨aL (h5.block 3 rfl),cell_of (h5.block 3 rfl) rfl,HN.out _ _ _ _ _ _ (by
      have h6:=h5.put 3 rfl 0 v'
      rw [List.length_append]
      exact h6)⟩
   have TP:Hid (vs.length≤1000):=Lib.hid (by omega)
   clear g1 g5 r1 r2 KP' HN hvs
   go_wp2_with (at_builtin;refine iP rfl G5.out 4 rfl (.tmp 41) (.tmp 43) 22 (by rfl) Tryz.underlying22 OL (by decide) (by decide) (by rfl) (by rfl) SB.out (fun u hu=>by simp at hu;subst hu;rfl) (Nat.le_trans (Nat.add_le_add_right TP.out 1) (by decide)) ?_)
   intro v' w5 UL hg5
   obtain⟨F5,r5⟩:=UL.get 4 rfl
   obtain⟨a5,c5',rfl,-,-,-⟩:=ay.shape r5
   obtain⟨f5,c5,hr5⟩:=HX.out _ w5 UL
   clear r5
   have uf:=Lib.hid hr5
   clear UL hg5 hr5 G5 SB HX TP
   go_wp2_with fail
   go_roundw
   case rel=>(try rw [hw2]);exact uf.out
   case measure=>(try rw [hw2]);exact dV hlt'
  ·have hge:(fs.length:Int)≤(k:Int):=Int.ofNat_le.2 (Nat.le_of_not_lt hlt)
   have hkl:fs.take k=fs:=List.take_of_length_le (Nat.le_of_not_lt hlt)
   rw [hkl] at dC
   obtain⟨bs,hbs⟩:∃ bs,bs=fs.map ak:=⟨_,rfl⟩
   rw [← hbs] at dC
   have HBS:=Lib.hid hbs
   have hb5:∀ b∈bs,b.length≤5000:=fun b hb=>by
    rw [hbs] at hb
    obtain⟨f,hf,rfl⟩:=List.mem_map.1 hb
    exact VR (mD.out f hf)
   have hvb:vs.length=bs.length:=by rw [hbs,List.length_map];omega
   have hbn:bs.length≤1000:=by rw [hbs,List.length_map];exact hnl
   obtain⟨Fv,hrv⟩:=dC.get 1 rfl
   obtain⟨av,cv,rfl,-,-,-⟩:=ay.shape hrv
   unfold WQ at dC
   rw [hvb] at dC
   have h3:In F0 w0 wr (eB lb bd l::bJ bd d::Cells w.heap.size #[aD lb] 28::Cells (w.heap.size+1) #[.int .i64 aj] 3::Cells (w.heap.size+1+1) #[.slice av bs.length cv] 22::ay 23 1 (.slice av bs.length cv) bs.length vs::(bodB vs bs++R)):=(In.OJ (X:=[_,_]) (B:=[_,_,_,_]) dC).aI (R1:=[_,_,_,_,_,_]) [4,5,3,2,0,1] (by decide) rfl
   have KS:=Lib.hid (BL h3 (Nat.le_trans MH.out.2 (by decide)))
   have z0:wr.cell? ⟨w.heap.size,0,none⟩=some (aD lb):=cell_of (h3.block 2 rfl) rfl
   have hlo1:=rG (s:=(d,l)) MH.out.1
   have YC:=kZ (d,l)
   have hoo:=MH.out.2
   by_cases hz:(aY (d,l)).2=0
   ·have Mq:=Lib.hid (DV aj bs (d,l) hz)
    generalize aY (d,l)=rs at *
    obtain⟨⟨d1,l1⟩,e1⟩:=rs
    simp only at hz KS hlo1 YC Mq
    subst hz
    have ho1:d1.ops≤99900000:=by omega
    have HB:=Lib.hid (And.intro hlo1 (And.intro ho1 (And.intro hb5 (And.intro hbn hvb))))
    clear dC hrv h3 hb5 hbn hvb hlo1 YC hoo ho1 hbs hkl hlt hk hvs mD HV MH hnl
    go_wp2_with fail
    refine KS.out.mono ?_
    rintro e w1 ⟨rfl,g1⟩
    have z1:w1.cell? ⟨w.heap.size,0,none⟩=some (aD lb):=cell_of (g1.block 2 rfl) rfl
    obtain⟨pa,pc,g2⟩:=g1.lX
    have z4:w1.cell? ⟨lb,4,none⟩=some (.slice pa l1.m.aa.length pc):=cell_of (g2.block 1 rfl) rfl
    have g3:=(((((g2.Ja).dG 3 1).cells #[.slice none 0 0] 43).aI (R1:=[_,_]) [1,0] (by decide) rfl).xw (aa:=[])).cells #[.bool false] 4
    have g4:=g3.cells #[.func (.func 92) #[] #[.pointer (some ⟨w.heap.size,0,none⟩),.pointer (some ⟨w.heap.size+1+1,0,none⟩),.pointer (some ⟨w1.heap.size,0,none⟩)],.func (.func 94) #[] #[.pointer (some ⟨w.heap.size,0,none⟩),.pointer (some ⟨w.heap.size+1,0,none⟩),.pointer (some ⟨w1.heap.size,0,none⟩),.pointer (some ⟨w1.heap.size+1,0,none⟩)]] 48
    simp only [World.size_alloc] at g4
    have g5:=g4.aI (R1:=[_,_,_,_,_]) [0,3,4,2,1] (by decide) rfl
    have KA:=Lib.hid (Ti (aj:=aj) HB.out.2.2.2.2 HB.out.1 HB.out.2.1 HB.out.2.2.1 HB.out.2.2.2.1 _ rfl g5)
    clear g1 g2 g3 g4 g5 KS z0
    go_wp2_with fail
    refine KA.out.mono ?_
    rintro e w2 ⟨rfl,g7⟩
    have hops:=DW (aj:=aj) (l:=l1) (d:=d1) HB.out.2.2.1
    have hon:=Tf (aj:=aj) (bs:=bs) (l:=l1) (d:=d1)
    have hoff:=OI (aj:=aj) (bs:=bs) (l:=l1) (d:=d1)
    generalize swapT aj bs l1 d1=r at *
    have hlen1:l1.m.aa.length≤64:=(bH.1 HB.out.1.2.2).1.2.2.2.1
    have MN:∀ x∈l1.m.aa,x < 4611686018427387904:=fun x hx=>Nat.lt_trans (dW HB.out.1.2.2 hx).2.2 (by decide)
    have hnx1:l1.m.next≤1000000:=(bH.1 HB.out.1.2.2).1.2.2.2.2.2
    have YD:=HB.out.2.1
    have YE:=HB.out.2.2.2.1
    have Ur:=Lib.hid (And.intro hlen1 MN)
    by_cases hr:r.2=0
    ·have h8:In F0 w0 w2 (eB lb bd r.1.l::bJ bd r.1.d::ay 3 1 (.slice pa l1.m.aa.length pc) l1.m.aa.length (cz l1.m.aa)::Cells (w1.heap.size+1) #[.bool true] 4::Cells w.heap.size #[aD lb] 28::Cells (w.heap.size+1) #[.int .i64 aj] 3::Cells (w.heap.size+1+1) #[.slice av bs.length cv] 22::ay 23 1 (.slice av bs.length cv) bs.length vs::(bodB vs bs++R)):=by
      unfold Tg at g7;rw [if_pos (hon hr)] at g7;exact g7
     have xO:Hid (∀ w',In F0 w0 w' (eB lb bd r.1.l::bJ bd (iB l1.m.aa r.1.d)::ay 3 1 (.slice pa l1.m.aa.length pc) l1.m.aa.length (cz l1.m.aa)::Cells (w1.heap.size+1) #[.bool true] 4::Cells w.heap.size #[aD lb] 28::Cells (w.heap.size+1) #[.int .i64 aj] 3::Cells (w.heap.size+1+1) #[.slice av bs.length cv] 22::ay 23 1 (.slice av bs.length cv) bs.length vs::(bodB vs bs++R))→ou lb bd (gM aj bs (d,l)) F0 w0 R (.returned (.int .i64 0)) w'):=Lib.hid fun w' h'=>by
      refine Gj (r:=kG l1 r) (Y:=[]) Mq.out ?_ ?_
      ·unfold kG;rw [if_pos hr]
      ·unfold kG;rw [if_pos hr]
       exact In.zU (X:=[_,_]) (h'.aI (R1:=[_,_,_,_,_,_,_,_]) [0,1] (by decide) rfl)
     have HR2:Hid (Tk lb bd r.1.l r.1.d l1.m.aa (ay 3 1 (.slice pa l1.m.aa.length pc) l1.m.aa.length (cz l1.m.aa)::Cells (w1.heap.size+1) #[.bool true] 4::Cells w.heap.size #[aD lb] 28::Cells (w.heap.size+1) #[.int .i64 aj] 3::Cells (w.heap.size+1+1) #[.slice av bs.length cv] 22::ay 23 1 (.slice av bs.length cv) bs.length vs::(bodB vs bs++R)) F0 w0 (.int .i64 0) w2):=Lib.hid ⟨0,Nat.zero_le _,rfl,h8⟩
     have OA:Hid (r.1.d.ops≤99999000):=Lib.hid (by omega)
     have HZ:=Lib.hid hr
     clear h8 g7 hon hoff hops hr KA HB Mq hlen1 MN hnx1 YD YE z1 z4
     rw [HZ.out]
     go_wp2_with fail
     go_loopw [65] (Tk lb bd r.1.l r.1.d l1.m.aa (ay 3 1 (.slice pa l1.m.aa.length pc) l1.m.aa.length (cz l1.m.aa)::Cells (w1.heap.size+1) #[.bool true] 4::Cells w.heap.size #[aD lb] 28::Cells (w.heap.size+1) #[.int .i64 aj] 3::Cells (w.heap.size+1+1) #[.slice av bs.length cv] 22::ay 23 1 (.slice av bs.length cv) bs.length vs::(bodB vs bs++R)) F0 w0) (fun k _=>l1.m.aa.length - (intOf k).toNat)
     case atStart=>exact HR2.out
     case round=>
      obtain⟨j,hj,rfl,dC⟩:=hrel
      clear HR2
      by_cases hlt:j < l1.m.aa.length
      ·obtain⟨x,hx⟩:∃ x,l1.m.aa[j]?=some x:=⟨l1.m.aa[j],List.getElem?_eq_getElem hlt⟩
       obtain⟨Fs,hrow⟩:=dC.get 2 rfl
       obtain⟨b,rfl,c0⟩:=hrow.at.2 j _ (Gd hx)
       have hlt':(j:Int) < (l1.m.aa.length:Int):=Int.ofNat_lt.2 hlt
       have hw2:wrap64 ((j:Int)+1)=(j:Int)+1:=by have:=Ur.out.1;unfold wrap64;omega
       obtain⟨Q,hQ⟩:∃ Q,Q=(ay 3 1 (.slice (some ⟨b,0,none⟩) l1.m.aa.length pc) l1.m.aa.length (cz l1.m.aa)::Cells (w1.heap.size+1) #[.bool true] 4::Cells w.heap.size #[aD lb] 28::Cells (w.heap.size+1) #[.int .i64 aj] 3::Cells (w.heap.size+1+1) #[.slice av bs.length cv] 22::ay 23 1 (.slice av bs.length cv) bs.length vs::(bodB vs bs++R)):=⟨_,rfl⟩
       have hQ2:Q[2]?=some (Cells w.heap.size #[aD lb] 28):=by rw [hQ];rfl
       rw [← hQ] at dC ⊢
       have HN:=Lib.hid (fun w' h'=>VT (w:=w') (l:=r.1.l) (lb:=lb) (bd:=bd) (d:=r.1.d) (F0:=F0) (w0:=w0) (Q:=Q) hx h')
       have KN:=Lib.hid (nU (dC.drewN 1) x (Ur.out.2 x (List.mem_of_getElem? hx)))
       have KC:=Lib.hid (fun w' (h':In F0 w0 w' (eB lb bd r.1.l::bJ bd (iB (l1.m.aa.take j) r.1.d)::Q))=>yh h' 1 rfl (YA OA.out (Nat.le_trans Ur.out.1 (by decide))) (ai x) (df x))
       have za:=Lib.hid (fun w' d' (h':In F0 w0 w' (eB lb bd r.1.l::bJ bd d'::Q))=>And.intro (show w'.cell? ⟨w.heap.size,0,none⟩=some (aD lb) from cell_of (h'.block 4 hQ2) rfl) h'.Ld)
       obtain⟨y0,y1⟩:=za.out wr _ dC
       clear dC hrow hj hlt hx hQ hQ2
       go_wp2_with fail
       go_region_held3 (fun w'=>w'.cell? ⟨w.heap.size,0,none⟩=some (aD lb)∧w'.cell? ⟨lb,0,none⟩=some (aD bd)) (first | exact⟨hz1,hz2⟩ | exact⟨y0,y1⟩ | go_keep)
        (first
         | (go_at_call 65;refine KN.out.mono ?_;rintro e w3 ⟨rfl,g1⟩;obtain⟨hz1,hz2⟩:=za.out w3 _ g1;have K1:=Lib.hid (KC.out w3 g1);clear g1)
         | (go_at_call 96;refine K1.out.mono ?_;rintro e w4 ⟨rfl,g2⟩;obtain⟨hz1,hz2⟩:=za.out w4 _ g2;have uf:=Lib.hid (HN.out w4 g2);clear g2))
       go_wp2_with fail
       go_roundw
       case rel=>(try rw [hw2]);exact uf.out
       case measure=>(try rw [hw2]);exact dV hlt'
      ·have hge:(l1.m.aa.length:Int)≤(j:Int):=Int.ofNat_le.2 (Nat.le_of_not_lt hlt)
       have hkl:l1.m.aa.take j=l1.m.aa:=List.take_of_length_le (Nat.le_of_not_lt hlt)
       rw [hkl] at dC
       have G:=Lib.hid (xO.out wr dC)
       clear dC hkl hlt hj xO
       go_wp2_with fail
       go_ret
       have GG:=G.out
       rw [HBS.out] at GG
       exact GG
    ·have q:(r.2 == 0)=false:=beq_eq_false_iff_ne.2 hr
     cases hrn:r.1.on with
     | true=>
      have h8:In F0 w0 w2 (eB lb bd r.1.l::bJ bd r.1.d::ay 3 1 (.slice pa l1.m.aa.length pc) l1.m.aa.length (cz l1.m.aa)::Cells (w1.heap.size+1) #[.bool true] 4::Cells w.heap.size #[aD lb] 28::Cells (w.heap.size+1) #[.int .i64 aj] 3::Cells (w.heap.size+1+1) #[.slice av bs.length cv] 22::ay 23 1 (.slice av bs.length cv) bs.length vs::(bodB vs bs++R)):=by
       unfold Tg at g7;rw [if_pos hrn] at g7;exact g7
      have G:Hid (ou lb bd (gM aj bs (d,l)) F0 w0 R (.returned (.int .i64 r.2)) w2):=Lib.hid (by
       refine Gj (r:=kG l1 r) (Y:=[]) Mq.out ?_ ?_
       ·unfold kG;rw [if_neg hr,if_pos hrn]
       ·unfold kG;rw [if_neg hr,if_pos hrn]
        exact In.zU (X:=[_,_]) (h8.aI (R1:=[_,_,_,_,_,_,_,_]) [0,1] (by decide) rfl))
      have y0:w2.cell? ⟨w1.heap.size+1,0,none⟩=some (.bool true):=cell_of (h8.block 3 rfl) rfl
      clear h8 g7 hon hoff hops hr KA HB Mq hlen1 MN hnx1 YD YE z1 z4 hrn
      go_wp2_with fail
      go_ret
      have GG:=G.out
      rw [HBS.out] at GG
      exact GG
     | false=>
      have h8:In F0 w0 w2 (yA (.slice pa l1.m.aa.length pc) lb bd l1::bJ bd r.1.d::pQ w1.heap.size r.1.aa::Cells (w1.heap.size+1) #[.bool false] 4::Cells w.heap.size #[aD lb] 28::Cells (w.heap.size+1) #[.int .i64 aj] 3::Cells (w.heap.size+1+1) #[.slice av bs.length cv] 22::ay 23 1 (.slice av bs.length cv) bs.length vs::(bodB vs bs++R)):=by
       unfold Tg at g7;rw [if_neg (by rw [hrn];simp)] at g7;exact g7
      obtain⟨sa,sc,h9⟩:=((h8.Cy).aI (R1:=[_,_,_]) [2,0,1] (by decide) rfl).rO
      have y0:w2.cell? ⟨w1.heap.size+1,0,none⟩=some (.bool false):=cell_of (h9.block 4 rfl) rfl
      have y1:w2.cell? ⟨w.heap.size,0,none⟩=some (aD lb):=cell_of (h9.block 5 rfl) rfl
      have y2:w2.cell? ⟨w1.heap.size,0,none⟩=some (.slice sa r.1.aa.length sc):=cell_of (h9.block 1 rfl) rfl
      have KD:=Lib.hid (Yw (h9.aI (R1:=[_,_,_,_]) [2,3,0,1] (by decide) rfl) (by omega) (by omega) (fun x hx=>by have:=hops.2.2 x hx;omega))
      have xO:Hid (∀ w',In F0 w0 w' (eB lb bd l1::bJ bd (dropD r.1.aa r.1.d)::ay 3 1 (.slice sa r.1.aa.length sc) r.1.aa.length (cz r.1.aa)::Cells w1.heap.size #[.slice sa r.1.aa.length sc] 43::Cells (w1.heap.size+1) #[.bool false] 4::Cells w.heap.size #[aD lb] 28::Cells (w.heap.size+1) #[.int .i64 aj] 3::Cells (w.heap.size+1+1) #[.slice av bs.length cv] 22::ay 23 1 (.slice av bs.length cv) bs.length vs::(bodB vs bs++R))→ou lb bd (gM aj bs (d,l)) F0 w0 R (.returned (.int .i64 r.2)) w'):=Lib.hid fun w' h'=>by
       refine Gj (r:=kG l1 r) (Y:=[]) Mq.out ?_ ?_
       ·unfold kG;rw [if_neg hr,if_neg (by rw [hrn];simp)]
       ·unfold kG;rw [if_neg hr,if_neg (by rw [hrn];simp)]
        simp only
        rw [hoff hrn]
        exact In.zU (X:=[_,_]) (h'.aI (R1:=[_,_,_,_,_,_,_,_,_]) [0,1] (by decide) rfl)
      clear h8 h9 g7 hon hoff hops hr KA HB Mq hlen1 MN hnx1 YD YE z1 z4 hrn
      go_wp2_with fail
      refine KD.out.mono ?_
      rintro e w3 ⟨rfl,g8⟩
      have G:=Lib.hid (xO.out w3 g8)
      clear g8 KD xO
      go_wp2_with fail
      go_ret
      have GG:=G.out
      rw [HBS.out] at GG
      exact GG
   ·have q:((aY (d,l)).2 != 0)=true:=by rw [bne_iff_ne];exact hz
    have HX:Hid (∀ w',In F0 w0 w' (eB lb bd (aY (d,l)).1.2::bJ bd (aY (d,l)).1.1::Cells w.heap.size #[aD lb] 28::Cells (w.heap.size+1) #[.int .i64 aj] 3::Cells (w.heap.size+1+1) #[.slice av bs.length cv] 22::ay 23 1 (.slice av bs.length cv) bs.length vs::(bodB vs bs++R))→ou lb bd (gM aj bs (d,l)) F0 w0 R (.returned (.int .i64 (aY (d,l)).2)) w'):=Lib.hid fun w' h'=>by
     rw [DZ hz]
     exact⟨rfl,In.zU (X:=[_,_]) (h'.aI (R1:=[_,_,_,_,_,_]) [0,1] (by decide) rfl)⟩
    clear dC hrv h3 hb5 hbn hvb hlo1 YC hoo hbs hkl hlt hk hvs mD HV MH hnl hz
    go_wp2_with fail
    refine KS.out.mono ?_
    rintro e w1 ⟨rfl,g1⟩
    have G:=Lib.hid (HX.out w1 g1)
    clear g1 KS HX
    go_wp2_with fail
    go_ret
    have GG:=G.out
    rw [HBS.out] at GG
    exact GG
end
theorem Jd {l:List Rec} {s:fP} (h:(applyAll l s).2=0) (k:Nat):(applyAll (l.take k) s).2=0:=by
 rw [← List.take_append_drop k l,lH] at h
 by_cases hc:(applyAll (l.take k) s).2=0
 ·exact hc
 ·rw [if_pos hc] at h;exact absurd h hc
theorem Tm {l:List Rec} {s:fP} {k:Nat} {x:Rec} (h:(applyAll l s).2=0) (hx:l[k]?=some x):(aX (applyAll (l.take k) s).1 x).2=0:=by
 by_cases hc:(aX (applyAll (l.take k) s).1 x).2=0
 ·exact hc
 ·rw [FU hx (Jd h k) hc] at h;exact absurd h hc
section
variable {F0:List Nat} {w0 w:World} {R:List az} {tb:Nat} {st:fP}
theorem VU {x:Rec} {Ax:Option Addr} {cx g:Nat} {W:World} (h2:W.heap[g]?=some (.cells #[.int .i64 x.kind,.int .u32 x.fl.t.src,.int .u32 x.fl.t.dst,.int .i64 x.fl.t.proto,.int .i64 x.fl.t.ag,.int .i64 x.fl.t.ah,.int .i64 x.fl.bk,.int .i64 x.fl.gen,.int .i64 x.fl.seen,.int .i64 x.gen,.slice Ax x.ax.length cx,.int .i64 x.bk,.int .i64 x.till,.int .i64 x.count] 69 (0,0))):W.cell? ⟨g,0,none⟩=some (.int .i64 x.kind)∧W.cell? ⟨g,1,none⟩=some (.int .u32 x.fl.t.src)∧W.cell? ⟨g,2,none⟩=some (.int .u32 x.fl.t.dst)∧W.cell? ⟨g,3,none⟩=some (.int .i64 x.fl.t.proto)∧W.cell? ⟨g,4,none⟩=some (.int .i64 x.fl.t.ag)∧W.cell? ⟨g,5,none⟩=some (.int .i64 x.fl.t.ah)∧W.cell? ⟨g,6,none⟩=some (.int .i64 x.fl.bk)∧W.cell? ⟨g,7,none⟩=some (.int .i64 x.fl.gen)∧W.cell? ⟨g,8,none⟩=some (.int .i64 x.fl.seen)∧W.cell? ⟨g,9,none⟩=some (.int .i64 x.gen)∧W.cell? ⟨g,10,none⟩=some (.slice Ax x.ax.length cx)∧W.cell? ⟨g,11,none⟩=some (.int .i64 x.bk)∧W.cell? ⟨g,12,none⟩=some (.int .i64 x.till)∧W.cell? ⟨g,13,none⟩=some (.int .i64 x.count):=
 ⟨cell_of h2 rfl,cell_of h2 rfl,cell_of h2 rfl,cell_of h2 rfl,cell_of h2 rfl,cell_of h2 rfl,cell_of h2 rfl,cell_of h2 rfl,cell_of h2 rfl,cell_of h2 rfl,cell_of h2 rfl,cell_of h2 rfl,cell_of h2 rfl,cell_of h2 rfl⟩
def Gl (st:fP) (aj:Int) (mb:Nat) (rv pv:Value) (F0:List Nat) (w0:World) (R:List az) (v i:Value) (wr:World):Prop:=
 ∃ (k:Nat) (va:Option Addr) (vc:Nat),k≤(aM st).length∧i=.int .i64 k∧v=.slice va k vc∧In F0 w0 wr (uU (.slice va k vc) ((cK aj st).take k)::iH mb (applyAll (((aM st).map (fun r=>dM r aj)).take k) aJ).1::ay 69 14 rv (aM st).length (recsV pv (aM st))::gG pv st.ax::R)
theorem In.VV {vs:List Value} {fs:List cB} {f:cB} {v v':Value} {Q:List az} (hl:vs.length=fs.length) (h:In F0 w0 w (ay 40 3 v' (fs.length+1) (flatFr fs vs++vZ f v)::nz v f::(bodiesR vs fs++Q))):In F0 w0 w (uU v' (fs++[f])::Q):=by
 refine tQ (vs:=vs++[v]) (by simp [hl]) ?_
 rw [sD _ _ hl,rf _ _ hl,List.length_append]
 refine h.perm (List.Perm.cons _ ?_)
 rw [List.append_assoc]
 exact List.perm_middle.symm
theorem Tn {aj:Int} (hv:dQ aj=true) (i0:Nat) (hA:R[i0]?=some (iH tb st)) (h:In F0 w0 w R) :
  Calls Tryz.prog 135 #[pR tb,.int .i64 aj] w fun e w'=>∃ a c mb,e=.returned (.tuple #[.slice a (cK aj st).length c,pR mb,.int .i64 0])∧In F0 w0 w' (uU (.slice a (cK aj st).length c) (cK aj st)::iH mb (eP aj st)::R):=by
 have hok:fU st:=by
  obtain⟨F,hF⟩:=h.get i0 hA
  obtain⟨dm,fm,bv,hok,_⟩:=hF
  exact hok
 have K1:=Lib.hid (zO h)
 have K2:Hid (∀ mb w',In F0 w0 w' (iH mb aJ::R)→Calls Tryz.prog 138 #[pR tb] w' fun e w''=>∃ v pv,e=.returned v∧In F0 w0 w'' (ay 69 14 v (aM st).length (recsV pv (aM st))::gG pv st.ax::iH mb aJ::R)):=Lib.hid (fun mb w' h'=>FO h' (i0+1) hA)
 have YF:=Lib.hid (LY hok hv)
 have mD:=Lib.hid hok
 have HV:=Lib.hid hv
 have hlen:=nO hok
 have hrl:(cK aj st).length=(aM st).length:=by simp [cK]
 clear h hok hv hA
 go_enter Tryz.func135,Tryz.ntmps135
 go_wp2_with fail
 refine K1.out.mono ?_
 rintro e w1 ⟨mb,rfl,g1⟩
 have K3:=Lib.hid (K2.out mb w1 g1)
 clear g1 K1 K2
 go_wp2_with fail
 refine K3.out.mono ?_
 rintro e w2 ⟨rv,pv,rfl,g2⟩
 obtain⟨Fr,rr⟩:=g2.get 0 rfl
 obtain⟨ra,rc,rfl,-,-,-⟩:=ay.shape rr
 obtain⟨Fp,rp⟩:=g2.get 1 rfl
 obtain⟨pa,pc,rfl,-,-,-⟩:=ay.shape rp
 have HN:Hid (pa=none→pc=0):=Lib.hid (fun e=>ay.Hy rp e)
 have HR:Hid (Gl st aj mb (.slice ra (aM st).length rc) (.slice pa st.ax.length pc) F0 w0 R (.slice none 0 0) (.int .i64 0) w2):=Lib.hid ⟨0,none,0,Nat.zero_le _,rfl,rfl,by
  have g3:=tQ (vs:=[]) (fs:=[]) rfl ((g2.aI (R1:=[_,_,_]) [2,0,1] (by decide) rfl).dG 40 3)
  exact g3⟩
 clear g2 K3 rr rp
 go_wp2_with fail
 go_loopw [7,17] (Gl st aj mb (.slice ra (aM st).length rc) (.slice pa st.ax.length pc) F0 w0 R) (fun _ k _=>(aM st).length - (intOf k).toNat)
 case atStart=>exact HR.out
 case round=>
  obtain⟨k,va,vc,hk,rfl,rfl,dC⟩:=hrel
  clear HR
  by_cases hlt:k < (aM st).length
  ·obtain⟨x,hx⟩:∃ x,(aM st)[k]?=some x:=⟨(aM st)[k],List.getElem?_eq_getElem hlt⟩
   obtain⟨Fr,rr⟩:=dC.get 2 rfl
   obtain⟨gr,o,rfl,sc⟩:=rr.all.plain (by omega) (by decide)
   obtain⟨Ax,cx,hpx,hnx,hbx⟩:∃ Ax cx,(if k=0 then (Value.slice pa st.ax.length pc) else .slice none 0 0)=.slice Ax x.ax.length cx∧(Ax=none→cx=0)∧gZ F0 w0 (ay 69 14 (.slice (some ⟨gr,o,none⟩) (aM st).length rc) (aM st).length (recsV (.slice pa st.ax.length pc) (aM st))::gG (.slice pa st.ax.length pc) st.ax::R) Ax x.ax:=by
    rcases uo hx with ⟨rfl,e⟩|⟨h0,e⟩
    ·refine⟨pa,pc,by rw [if_pos rfl,e],HN.out,?_⟩
     rw [e]
     exact fun w' h'=>by obtain⟨F',r'⟩:=h'.get 1 rfl;exact r'.all
    ·refine⟨none,0,by rw [if_neg h0,e];rfl,fun _=>rfl,?_⟩
     rw [e]
     exact fun w' h'=>Src.nil _ _ _
   have c0:wr.cell? ⟨gr,o+k * 14,none⟩=some (.int .i64 x.kind):=by
    have:=sc (k * 14+0) _ (by rw [bS hx 0 (by decide),hpx];rfl)
    rwa [← Nat.add_assoc] at this
   have c1:wr.cell? ⟨gr,o+k * 14+1,none⟩=some (.int .u32 x.fl.t.src):=by
    have:=sc (k * 14+1) _ (by rw [bS hx 1 (by decide),hpx];rfl)
    rwa [← Nat.add_assoc] at this
   have c2:wr.cell? ⟨gr,o+k * 14+2,none⟩=some (.int .u32 x.fl.t.dst):=by
    have:=sc (k * 14+2) _ (by rw [bS hx 2 (by decide),hpx];rfl)
    rwa [← Nat.add_assoc] at this
   have c3:wr.cell? ⟨gr,o+k * 14+3,none⟩=some (.int .i64 x.fl.t.proto):=by
    have:=sc (k * 14+3) _ (by rw [bS hx 3 (by decide),hpx];rfl)
    rwa [← Nat.add_assoc] at this
   have c4:wr.cell? ⟨gr,o+k * 14+4,none⟩=some (.int .i64 x.fl.t.ag):=by
    have:=sc (k * 14+4) _ (by rw [bS hx 4 (by decide),hpx];rfl)
    rwa [← Nat.add_assoc] at this
   have c5:wr.cell? ⟨gr,o+k * 14+5,none⟩=some (.int .i64 x.fl.t.ah):=by
    have:=sc (k * 14+5) _ (by rw [bS hx 5 (by decide),hpx];rfl)
    rwa [← Nat.add_assoc] at this
   have c6:wr.cell? ⟨gr,o+k * 14+6,none⟩=some (.int .i64 x.fl.bk):=by
    have:=sc (k * 14+6) _ (by rw [bS hx 6 (by decide),hpx];rfl)
    rwa [← Nat.add_assoc] at this
   have c7:wr.cell? ⟨gr,o+k * 14+7,none⟩=some (.int .i64 x.fl.gen):=by
    have:=sc (k * 14+7) _ (by rw [bS hx 7 (by decide),hpx];rfl)
    rwa [← Nat.add_assoc] at this
   have c8:wr.cell? ⟨gr,o+k * 14+8,none⟩=some (.int .i64 x.fl.seen):=by
    have:=sc (k * 14+8) _ (by rw [bS hx 8 (by decide),hpx];rfl)
    rwa [← Nat.add_assoc] at this
   have c9:wr.cell? ⟨gr,o+k * 14+9,none⟩=some (.int .i64 x.gen):=by
    have:=sc (k * 14+9) _ (by rw [bS hx 9 (by decide),hpx];rfl)
    rwa [← Nat.add_assoc] at this
   have c10:wr.cell? ⟨gr,o+k * 14+10,none⟩=some (.slice Ax x.ax.length cx):=by
    have:=sc (k * 14+10) _ (by rw [bS hx 10 (by decide),hpx];rfl)
    rwa [← Nat.add_assoc] at this
   have c11:wr.cell? ⟨gr,o+k * 14+11,none⟩=some (.int .i64 x.bk):=by
    have:=sc (k * 14+11) _ (by rw [bS hx 11 (by decide),hpx];rfl)
    rwa [← Nat.add_assoc] at this
   have c12:wr.cell? ⟨gr,o+k * 14+12,none⟩=some (.int .i64 x.till):=by
    have:=sc (k * 14+12) _ (by rw [bS hx 12 (by decide),hpx];rfl)
    rwa [← Nat.add_assoc] at this
   have c13:wr.cell? ⟨gr,o+k * 14+13,none⟩=some (.int .i64 x.count):=by
    have:=sc (k * 14+13) _ (by rw [bS hx 13 (by decide),hpx];rfl)
    rwa [← Nat.add_assoc] at this
   have hlt':(k:Int) < ((aM st).length:Int):=Int.ofNat_lt.2 hlt
   have hw2:wrap64 ((k:Int)+1)=(k:Int)+1:=by unfold wrap64;omega
   obtain⟨WR,wx2,wx3⟩:=mQ.recs mD.out x (List.mem_of_getElem? hx)
   have hbl:x.ax.length≤1000000:=by
    have:=(mD.out.lens).1
    rcases uo hx with ⟨_,e⟩|⟨_,e⟩ <;> rw [e]
    ·omega
    ·exact Nat.zero_le _
   have henc:=(oK WR HV.out wx2).1
   have TI:(cK aj st)[k]?=some (dh x aj).1:=by simp [cK,hx]
   have hik:((aM st).map (fun r=>dM r aj))[k]?=some (dM x aj):=by simp [hx]
   have hstep:=Tm (by rw [YF.out]) hik
   have hsn:=BP hik (Jd (by rw [YF.out]) k) hstep
   have htk:(cK aj st).take (k+1)=(cK aj st).take k++[(dh x aj).1]:=by rw [List.take_add_one,TI];rfl
   have hfl:((cK aj st).take k).length=k:=by rw [List.length_take,hrl];omega
   have g1:=dC.cells #[.int .i64 x.kind,.int .u32 x.fl.t.src,.int .u32 x.fl.t.dst,.int .i64 x.fl.t.proto,.int .i64 x.fl.t.ag,.int .i64 x.fl.t.ah,.int .i64 x.fl.bk,.int .i64 x.fl.gen,.int .i64 x.fl.seen,.int .i64 x.gen,.slice Ax x.ax.length cx,.int .i64 x.bk,.int .i64 x.till,.int .i64 x.count] 69
   have KE:=(zK (r:=x) (c:=cx) aj (hbx.oZ [Cells wr.heap.size #[.int .i64 x.kind,.int .u32 x.fl.t.src,.int .u32 x.fl.t.dst,.int .i64 x.fl.t.proto,.int .i64 x.fl.t.ag,.int .i64 x.fl.t.ah,.int .i64 x.fl.bk,.int .i64 x.fl.gen,.int .i64 x.fl.seen,.int .i64 x.gen,.slice Ax x.ax.length cx,.int .i64 x.bk,.int .i64 x.till,.int .i64 x.count] 69,uU (.slice va k vc) ((cK aj st).take k),iH mb (applyAll (((aM st).map (fun r=>dM r aj)).take k) aJ).1]) WR hbl g1)
   have HM:=Lib.hid (dV hlt')
   have HK:Hid (k+1≤(aM st).length):=Lib.hid hlt
   have Pk:=Lib.hid hsn
   have YV:=Lib.hid htk
   have YY:=Lib.hid hfl
   have Yy:=Lib.hid hnx
   have HBX:=Lib.hid hbx
   have HW1:=Lib.hid WR
   clear dC hx hk rr sc hpx hnx hbx g1 TI hik hstep hsn htk hfl WR wx2 wx3 hlt
   rw [show dh x aj=((dh x aj).1,0) from by rw [← henc]] at KE
   replace KE:=Lib.hid KE
   clear henc
   generalize (cK aj st).take k=fs at *
   generalize (applyAll (((aM st).map (fun r=>dM r aj)).take k) aJ).1=t at *
   generalize (dh x aj).1=fr at *
   go_wp2_with fail
   refine KE.out.mono ?_
   rintro e w3 ⟨v,rfl,g3⟩
   have TI:=YY.out
   clear YY
   subst TI
   obtain⟨vs,hvs,g4⟩:=(g3.aI (R1:=[_,_,_,_,_,_]) [2,0,1,3,4,5] (by decide) rfl).FW
   have g5:=g4.perm (List.Perm.cons _ (List.perm_append_comm (l₁:=bodiesR vs fs) (l₂:=nz v fr::Cells wr.heap.size #[.int .i64 x.kind,.int .u32 x.fl.t.src,.int .u32 x.fl.t.dst,.int .i64 x.fl.t.proto,.int .i64 x.fl.t.ag,.int .i64 x.fl.t.ah,.int .i64 x.fl.bk,.int .i64 x.fl.gen,.int .i64 x.fl.seen,.int .i64 x.gen,.slice Ax x.ax.length cx,.int .i64 x.bk,.int .i64 x.till,.int .i64 x.count] 69::iH mb t::ay 69 14 (.slice (some ⟨gr,o,none⟩) (aM st).length rc) (aM st).length (recsV (.slice pa st.ax.length pc) (aM st))::gG (.slice pa st.ax.length pc) st.ax::R)))
   obtain⟨Fv,rv⟩:=g5.get 1 rfl
   obtain⟨bv,bc,rfl,-,-,-⟩:=ay.shape rv
   have g6:=(g5.cells #[.int .i64 fr.kind,.int .i64 fr.aj,.slice bv fr.body.length bc] 40).cells #[.int .i64 fr.kind,.int .i64 fr.aj,.slice bv fr.body.length bc] 40
   simp only [World.size_alloc] at g6
   have SB:=Lib.hid (Src.of_block (k:=3) (g6.block 0 rfl) rfl)
   have H6:=Lib.hid g6
   have TP:=Lib.hid hvs
   clear g3 g4 g5 g6 rv hvs KE
   go_wp2_with (at_builtin;refine iP rfl H6.out 2 rfl (.tmp 30) (.tmp 32) 33 (by rfl) Tryz.underlying33 CY (by decide) (by decide) (by rfl) (by rfl) SB.out (fun u hu=>by simp at hu;rcases hu with rfl | rfl | rfl <;> rfl) (by have:=HK.out;omega) ?_)
   intro v' w5 ho hg
   obtain⟨Fw,hw⟩:=ho.get 2 rfl
   obtain⟨aw,cw,rfl,-,-,-⟩:=hw.shape
   have g7:In F0 w0 w5 (uU (.slice aw (fs.length+1) cw) (fs++[fr])::Cells wr.heap.size #[.int .i64 x.kind,.int .u32 x.fl.t.src,.int .u32 x.fl.t.dst,.int .i64 x.fl.t.proto,.int .i64 x.fl.t.ag,.int .i64 x.fl.t.ah,.int .i64 x.fl.bk,.int .i64 x.fl.gen,.int .i64 x.fl.seen,.int .i64 x.gen,.slice Ax x.ax.length cx,.int .i64 x.bk,.int .i64 x.till,.int .i64 x.count] 69::iH mb t::ay 69 14 (.slice (some ⟨gr,o,none⟩) (aM st).length rc) (aM st).length (recsV (.slice pa st.ax.length pc) (aM st))::gG (.slice pa st.ax.length pc) st.ax::R):=In.VV TP.out (ho.drop.drop.perm (List.Perm.cons _ (List.Perm.cons _ (List.perm_append_comm (l₁:=Cells wr.heap.size #[.int .i64 x.kind,.int .u32 x.fl.t.src,.int .u32 x.fl.t.dst,.int .i64 x.fl.t.proto,.int .i64 x.fl.t.ag,.int .i64 x.fl.t.ah,.int .i64 x.fl.bk,.int .i64 x.fl.gen,.int .i64 x.fl.seen,.int .i64 x.gen,.slice Ax x.ax.length cx,.int .i64 x.bk,.int .i64 x.till,.int .i64 x.count] 69::iH mb t::ay 69 14 (.slice (some ⟨gr,o,none⟩) (aM st).length rc) (aM st).length (recsV (.slice pa st.ax.length pc) (aM st))::gG (.slice pa st.ax.length pc) st.ax::R) (l₂:=bodiesR vs fs)))))
   have hy:=VU (g7.block 1 rfl)
   obtain⟨y0,y1,y2,y3,y4,y5,y6,y7,y8,y9,mf,om,oo,y13⟩:=hy
   have KI:=Lib.hid (QH (r:=x) (c:=cx) aj (HBX.out.oZ [uU (.slice aw (fs.length+1) cw) (fs++[fr]),Cells wr.heap.size #[.int .i64 x.kind,.int .u32 x.fl.t.src,.int .u32 x.fl.t.dst,.int .i64 x.fl.t.proto,.int .i64 x.fl.t.ag,.int .i64 x.fl.t.ah,.int .i64 x.fl.bk,.int .i64 x.fl.gen,.int .i64 x.fl.seen,.int .i64 x.gen,.slice Ax x.ax.length cx,.int .i64 x.bk,.int .i64 x.till,.int .i64 x.count] 69,iH mb t]) Yy.out hbl g7)
   have HIB:Hid ((dM x aj).ax.length≤1000000):=Lib.hid (Nat.le_trans (DT _ _) hbl)
   have HIW:=Lib.hid (mQ.dM HW1.out aj)
   clear ho hg hw g7 H6 SB TP
   go_wp2_with fail
   refine KI.out.mono ?_
   rintro e w6 ⟨pv2,rfl,g8⟩
   obtain⟨Fp,rp⟩:=g8.get 0 rfl
   obtain⟨pa2,pc2,rfl,-,-,-⟩:=ay.shape rp
   have KP:=Lib.hid (wX (r:=dM x aj) (A:=pa2) (c:=pc2) (wW rfl 0 rfl) (fun e=>ay.Hy rp e) HIB.out HIW.out (g8.aI (R1:=[_,_,_,_,_,_]) [3,0,1,2,4,5] (by decide) rfl))
   clear g8 rp KI y0 y1 y2 y3 y4 y5 y6 y7 y8 y9 mf om oo y13
   go_wp2_with fail
   refine KP.out.mono ?_
   rintro e w7 ⟨rfl,g9⟩
   have HR:Hid (Gl st aj mb (.slice (some ⟨gr,o,none⟩) (aM st).length rc) (.slice pa st.ax.length pc) F0 w0 R (.slice aw (fs.length+1) cw) (.int .i64 ((fs.length:Int)+1)) w7):=Lib.hid ⟨fs.length+1,aw,cw,HK.out,by rw [Int.natCast_add];rfl,rfl,by
    rw [YV.out,Pk.out]
    exact g9.aI (R1:=[_,_,_,_,_,_]) [2,0,4,5] (by decide) rfl⟩
   clear g9 KP Pk YV
   go_wp2_with fail
   go_roundw
   case rel=>(try rw [hw2]);exact HR.out
   case measure=>(try rw [hw2]);exact HM.out
  ·have hge:((aM st).length:Int)≤(k:Int):=Int.ofNat_le.2 (Nat.le_of_not_lt hlt)
   have hkl:k=(aM st).length:=by omega
   subst hkl
   have G:Hid (In F0 w0 wr (uU (.slice va (aM st).length vc) (cK aj st)::iH mb (eP aj st)::R)):=Lib.hid (by
    have:=dC.aI (R1:=[_,_,_,_]) [0,1] (by decide) rfl
    rw [List.take_of_length_le (Nat.le_of_eq hrl),List.take_of_length_le (by simp),YF.out] at this
    exact this)
   have HRL:=Lib.hid hrl
   clear dC hlt hk hrl
   go_wp2_with fail
   exact bodyPost_ret (results_tmp3 Tryz.results135 _ _ _) rfl ⟨va,vc,mb,by rw [HRL.out];rfl,by rw [HRL.out];exact G.out⟩
end
end Go.Proofs.YtogclkhpbjfadaaGreat
