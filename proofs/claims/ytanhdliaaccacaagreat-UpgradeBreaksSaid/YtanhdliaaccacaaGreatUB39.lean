/- .. -/
import Derived.Test.YtanhdliaaccacaaGreatUB13
import Derived.Laws.EntriesVeiled
import Derived.Test.YtanhdliaaccacaaGreatUB25
import Derived.Test.YtanhdliaaccacaaGreatUB37
import Derived.Test.YtanhdliaaccacaaGreatUB32
import Derived.Test.YtanhdliaaccacaaGreatUB38
namespace Go.Proofs.YtanhdliaaccacaaGreat
open Go.RowKit
set_option linter.unusedVariables false
set_option maxHeartbeats 64000000
set_option maxRecDepth 100000
def rR (s:Int) (r:Rec):Rec:=
 if r.kind=1 then ⟨r.kind,⟨r.fl.t,r.fl.bk,if s=1 then 1 else r.fl.gen,if s=1 then r.fl.seen else if s=2 then 0 else r.fl.seen⟩,r.gen,r.au,r.bk,r.till,r.count⟩ else r
theorem Ma (s:Int) (r:Rec):(rR s r).au=r.au:=by unfold rR;split <;> rfl
section
variable {F0:List Nat} {w0 w:World} {R:List ax}
theorem Ty {r:Rec} {s:Int} (hs:s=1∨s=2) (A:Option Addr) (c:Nat) (h:In F0 w0 w R):Calls Tryz.prog 271 #[.int .i64 s,tq r A c] w fun e w'=>e=.returned (.agg (aC (rR s r) (.slice A r.au.length c)).toArray)∧In F0 w0 w' R:=by
 have HH:=Lib.hid h
 obtain⟨kind,⟨⟨src,dst,proto,ag,ah⟩,bN,aJ,aA⟩,gen,au,bk,till,count⟩:=r
 clear h
 by_cases k1:kind=1
 ·subst k1
  rcases hs with rfl | rfl
  ·go_enter Tryz.func271,Tryz.ntmps271
   go_wp2_with fail
   exact bodyPost_ret (results_cell_row Tryz.results271 _ _ (w.heap.size+1) 59 _ (0,0) _ rfl (heap_alloc2_new _ _ _) Tryz.underlying59 rfl (by kernel_rfl)) rfl ⟨rfl,(HH.out.alloc _).alloc _⟩
  ·go_enter Tryz.func271,Tryz.ntmps271
   go_wp2_with fail
   exact bodyPost_ret (results_cell_row Tryz.results271 _ _ (w.heap.size+1) 59 _ (0,0) _ rfl (heap_alloc2_new _ _ _) Tryz.underlying59 rfl (by kernel_rfl)) rfl ⟨rfl,(HH.out.alloc _).alloc _⟩
 ·have e:rR s ⟨kind,⟨⟨src,dst,proto,ag,ah⟩,bN,aJ,aA⟩,gen,au,bk,till,count⟩=⟨kind,⟨⟨src,dst,proto,ag,ah⟩,bN,aJ,aA⟩,gen,au,bk,till,count⟩:=if_neg k1
  rw [e]
  have q1:(kind != 1)=true:=bne_iff_ne.2 k1
  clear e hs k1
  go_enter Tryz.func271,Tryz.ntmps271
  go_wp2_with fail
  exact bodyPost_ret (results_cell_row Tryz.results271 _ _ (w.heap.size+1) 59 _ (0,0) _ rfl (heap_alloc2_new _ _ _) Tryz.underlying59 rfl (by kernel_rfl)) rfl ⟨rfl,(HH.out.alloc _).alloc _⟩
abbrev TT:Value:=.func (.func 271) #[] #[]
abbrev VZ (bb vb:Nat):Value:=.func (.func 272) #[] #[.pointer (some ⟨bb,0,none⟩),.pointer (some ⟨vb,0,none⟩)]
theorem Wd {r:Rec} {s:Int} (hs:s=1∨s=2) (A:Option Addr) (c:Nat) {bb vb:Nat} (i j:Nat) (hi:R[i]?=some (Cells bb #[TT] 299)) (hj:R[j]?=some (Cells vb #[.int .i64 s] 3)) (h:In F0 w0 w R) :
  Calls Tryz.prog 272 #[tq r A c,.pointer (some ⟨bb,0,none⟩),.pointer (some ⟨vb,0,none⟩)] w fun e w'=>e=.returned (.agg (aC (rR s r) (.slice A r.au.length c)).toArray)∧In F0 w0 w' R:=by
 obtain⟨y,hy⟩:∃ y,y=rR s r:=⟨_,rfl⟩
 rw [← hy]
 obtain⟨C0,hC0⟩:∃ C,C=(aC r (.slice A r.au.length c)).toArray:=⟨_,rfl⟩
 have h2:=(h.cells C0 59).cells (aC aM (.slice none 0 0)).toArray 59
 simp only [World.size_alloc] at h2
 have c1:((w.alloc (.cells C0 59)).alloc (.cells #[.int .i64 0,.int .u32 0,.int .u32 0,.int .i64 0,.int .i64 0,.int .i64 0,.int .i64 0,.int .i64 0,.int .i64 0,.int .i64 0,.slice none 0 0,.int .i64 0,.int .i64 0,.int .i64 0] 59)).cell? ⟨bb,0,none⟩=some (.func (.func 271) #[] #[]):=cell_of (o:=0) (h2.block (i+2) hi) rfl
 have c2:((w.alloc (.cells C0 59)).alloc (.cells #[.int .i64 0,.int .u32 0,.int .u32 0,.int .i64 0,.int .i64 0,.int .i64 0,.int .i64 0,.int .i64 0,.int .i64 0,.int .i64 0,.slice none 0 0,.int .i64 0,.int .i64 0,.int .i64 0] 59)).cell? ⟨vb,0,none⟩=some (.int .i64 s):=cell_of (o:=0) (h2.block (j+2) hj) rfl
 have K0:=Ty (r:=r) hs A c h2
 rw [← hy] at K0
 have K:=Lib.hid K0
 have HE:Hid (∀ w',In F0 w0 w' (Cells (w.heap.size+1) (aC aM (.slice none 0 0)).toArray 59::Cells w.heap.size C0 59::R)→w'.there (w.heap.size+1) 0 14∧(w'.setCells (w.heap.size+1) 0 (aC y (.slice A r.au.length c))).heap[w.heap.size+1]?=some (.cells (aC (y) (.slice A r.au.length c)).toArray 59 (0,0))∧In F0 w0 (w'.setCells (w.heap.size+1) 0 (aC y (.slice A r.au.length c))) R):=Lib.hid fun w' h'=>by
  have h3:=h'.eX 0 rfl (xs:=aC (y) (.slice A r.au.length c)) (b:=w.heap.size+1) (C:=(aC aM (.slice none 0 0)).toArray) (T:=59) rfl
  exact⟨dX (h'.block 0 rfl),h3.block 0 rfl,h3.drop.drop⟩
 clear h h2 hs hi hj hy K0
 obtain⟨kind,⟨⟨src,dst,proto,ag,ah⟩,bN,aJ,aA⟩,gen,au,bk,till,count⟩:=r
 subst hC0
 go_enter Tryz.func272,Tryz.ntmps272
 go_wp2_with fail
 refine K.out.mono ?_
 rintro e w1 ⟨rfl,g1⟩
 obtain⟨q1,q2,q3⟩:=HE.out _ g1
 have Q:=Lib.hid (And.intro q2 q3)
 clear K HE g1 q2 q3
 go_wp2_with (refine wpList_store_mid (op:=⟨none,Op.store 59 (.tmp 4) (.tmp 8),_,_,_,_⟩) (by rfl) 59 (.tmp 4) (.tmp 8) rfl (w.heap.size+1) 0 (aC y (.slice A au.length c)).toArray (by rfl) (by rfl) q1 (by kernel_rfl) (ig _ _ _ _) ?_)
 exact bodyPost_ret (results_cell_row Tryz.results272 _ _ (w.heap.size+1) 59 _ (0,0) _ rfl Q.out.1 Tryz.underlying59 rfl (by kernel_rfl)) rfl ⟨rfl,Q.out.2⟩
/-! ### The steps in a row -/
def boxesR:Int→List Nat→List ax
 | _,[]=>[]
 | a,x::l=>Cells x #[.int .i64 a] 3::boxesR (a+1) l
theorem zk:∀ (l:List Nat) (a:Int) (y:Nat),boxesR a (l++[y])=boxesR a l++[Cells y #[.int .i64 (a+l.length)] 3]
 | [],a,y=>by simp [boxesR]
 | x::l,a,y=>by
  show _::boxesR (a+1) (l++[y])=_::(boxesR (a+1) l++_)
  rw [zk l (a+1) y]
  have:a+1+(l.length:Int)=a+((x::l).length:Int):=by rw [List.length_cons];omega
  rw [this]
theorem Eb:∀ (l:List Nat) (a:Int) (k x:Nat),l[k]?=some x→(boxesR a l)[k]?=some (Cells x #[.int .i64 (a+k)] 3)
 | [],_,_,_,h=>by simp at h
 | y::l,a,0,x,h=>by simp at h;subst h;simp [boxesR]
 | y::l,a,k+1,x,h=>by
  have:=Eb l (a+1) k x (by simpa using h)
  show (boxesR (a+1) l)[k]?=_
  rw [this]
  have:a+1+(k:Int)=a+((k+1:Nat):Int):=by omega
  rw [this]
theorem Ch:∀ (l:List Nat) (a:Int),(boxesR a l).length=l.length
 | [],_=>rfl
 | x::l,a=>by show (boxesR (a+1) l).length+1=l.length+1;rw [Ch l]
abbrev Cx (bb:Nat) (l:List Nat):List Value:=l.map (VZ bb)
theorem YU:(Tryz.prog.info? 129).map (fun i=>(i.zero.map (fun z=>z.cells.size),i.size,i.bytes))=some (some 1,1,8):=by kernel_rfl
def Tz (a b:Int) (bb:Nat) (F0:List Nat) (w0:World) (R:List ax) (v p:Value) (wr:World):Prop:=
 ∃ (vb:Nat) (l:List Nat) (ra:Option Addr) (rc:Nat),v=.slice ra l.length rc∧p=.pointer (some ⟨vb,0,none⟩)∧a+l.length≤b∧In F0 w0 wr (Cells vb #[.int .i64 (a+l.length)] 3::ay 129 1 (.slice ra l.length rc) l.length (Cx bb l)::Cells bb #[TT] 299::(boxesR a l++R))
def YV (a b:Int) (F0:List Nat) (w0:World) (R:List ax) (e:Ending) (w':World):Prop:=
 ∃ (bb:Nat) (l:List Nat) (ra:Option Addr) (rc:Nat),e=.returned (.slice ra l.length rc)∧a+l.length=b∧In F0 w0 w' (ay 129 1 (.slice ra l.length rc) l.length (Cx bb l)::Cells bb #[TT] 299::(boxesR a l++R))
def mgM (b:Int) (p:Value) (w:World):Nat:=match p with
 | .pointer (some ad)=>(b - intOf ((w.cell? ad).getD (.int .i64 0))).toNat
 | _=>0
theorem Ph {a b:Int} (hab:1≤a∧a≤b∧b≤3) (h:In F0 w0 w R):Calls Tryz.prog 227 #[.int .i64 a,.int .i64 b] w (YV a b F0 w0 R):=by
 have h2:=(h.cells #[TT] 299).cells #[.int .i64 a] 3
 simp only [World.size_alloc] at h2
 have HS:Hid (Tz a b w.heap.size F0 w0 R (.slice none 0 0) (.pointer (some ⟨w.heap.size+1,0,none⟩)) ((w.alloc (.cells #[TT] 299)).alloc (.cells #[.int .i64 a] 3))):=Lib.hid ⟨w.heap.size+1,[],none,0,rfl,rfl,by simpa using hab.2.1,by
  have:=(h2.dz 129 1).aL (R1:=[_,_,_]) [1,0,2] (by decide) rfl
  simpa [boxesR] using this⟩
 have Pw:∀ (fn:Fn) (first cap:Array Value) (w:World),(Instr.makeFunc fn first cap).run Tryz.prog w=.ok (.func fn first cap) w:=fun _ _ _ _=>rfl
 have YW:=Lib.hid hab
 clear h h2 hab
 go_enter Tryz.func227,Tryz.ntmps227
 go_wp2_with fail
 generalize w.heap.size=bb at *
 go_loopw [6,7] (Tz a b bb F0 w0 R) (fun _ p w=>mgM b p w)
 case atStart=>exact HS.out
 case round=>
  obtain⟨vb,l,ra,rc,rfl,rfl,hk,ho⟩:=hrel
  clear HS
  have c0:wr.cell? ⟨vb,0,none⟩=some (.int .i64 (a+l.length)):=cell_of (ho.block 0 rfl) rfl
  by_cases hlt:a+(l.length:Int) < b
  ·have hw2:wrap64 (a+(l.length:Int)+1)=a+((l.length:Int)+1):=by have:=YW.out;unfold wrap64;omega
   have HO:=Lib.hid ho
   have HK:Hid (l.length≤1000000000):=Lib.hid (by have:=YW.out;omega)
   have HL:Hid (a+(l.length:Int) < b):=Lib.hid hlt
   have hlt':=decide_eq_true hlt
   have HC:=Lib.hid c0
   clear ho hk hlt
   go_wp2_with (at_builtin;refine qM (HO.out.alloc _) 1 rfl rfl (.tmp 14) (.tmp 16) 265 rfl Tryz.underlying265 YU (by decide) (by decide) rfl _ #[VZ bb vb] rfl (mR (by simp)) rfl (fun u hu=>by simp at hu;subst hu;rfl) HK.out ?_)
   intro v' w3 ho
   obtain⟨Fn,rn⟩:=ho.get 1 rfl
   obtain⟨na,nc,rfl,-,-,-⟩:=ay.shape rn
   have c3:w3.cell? ⟨vb,0,none⟩=some (.int .i64 (a+l.length)):=cell_of (ho.block 0 rfl) rfl
   have HR:Hid (Tz a b bb F0 w0 R (.slice na (l.length+1) nc) (.pointer (some ⟨w3.heap.size,0,none⟩)) (w3.alloc (.cells #[.int .i64 (a+((l.length:Int)+1))] 3))):=Lib.hid (by
    refine⟨w3.heap.size,l++[vb],na,nc,by rw [List.length_append];rfl,rfl,by rw [List.length_append];have:=HL.out;simp only [List.length_cons,List.length_nil];omega,?_⟩
    have h5:=ho.cells #[.int .i64 (a+((l.length:Int)+1))] 3
    have e1:Cx bb (l++[vb])=Cx bb l++(#[VZ bb vb]:Array Value).toList:=by simp [Cx]
    rw [e1,zk,List.append_assoc]
    have e2:(l++[vb]).length=l.length+1:=by simp
    have e3:a+((l++[vb]).length:Int)=a+((l.length:Int)+1):=by rw [e2,Int.natCast_add];rfl
    rw [e3,e2]
    have h6:=h5.aL (R1:=[_,_,_,_]) [0,2,3,1] (by decide) rfl
    refine h6.perm ?_
    refine List.Perm.cons _ (List.Perm.cons _ (List.Perm.cons _ ?_))
    show (_::(boxesR a l++R)).Perm (boxesR a l++(_::R))
    exact List.perm_middle.symm)
   have HM:Hid (mgM b (.pointer (some ⟨w3.heap.size,0,none⟩)) (w3.alloc (.cells #[.int .i64 (a+((l.length:Int)+1))] 3)) < mgM b (.pointer (some ⟨vb,0,none⟩)) wr):=Lib.hid (by
    have e1:(w3.alloc (.cells #[.int .i64 (a+((l.length:Int)+1))] 3)).cell? ⟨w3.heap.size,0,none⟩=some (.int .i64 (a+((l.length:Int)+1))):=cell_of ((ho.cells _ _).block 0 rfl) rfl
    dsimp only [mgM]
    rw [e1,HC.out]
    simp only [Option.getD_some,intOf]
    have:=HL.out
    omega)
   clear ho HO rn c0 HC
   go_wp2_with fail
   go_roundw
   case rel=>exact HR.out
   case measure=>exact HM.out
  ·have hge:decide (a+(l.length:Int) < b)=false:=decide_eq_false hlt
   have G:=Lib.hid ho.drop
   have HK:Hid (a+(l.length:Int)=b):=Lib.hid (by omega)
   clear ho hlt hk
   go_wp2_with fail
   go_ret
   exact⟨bb,l,ra,rc,rfl,HK.out,G.out⟩
end
def ma (a:Int):Nat→Rec→Rec
 | 0,r=>r
 | k+1,r=>rR (a+k) (ma a k r)
def ny (a b:Int) (r:Rec):Rec:=ma a (b - a).toNat (dB r a)
theorem jQ (a:Int) (r:Rec):∀ k,(ma a k r).au=r.au
 | 0=>rfl
 | k+1=>(Ma _ _).trans (jQ a r k)
section
variable {F0:List Nat} {w0 w:World} {R:List ax}
theorem In.WY:∀ (X:List ax) {R:List ax},In F0 w0 w (X++R)→In F0 w0 w R
 | [],_,h=>h
 | _::X,_,h=>In.WY X h.drop
def Gq (a:Int) (q:Rec) (pv:Value) (g:Nat) (fv:Value) (bb:Nat) (l:List Nat) (F0:List Nat) (w0:World) (R:List ax) (i:Value) (wr:World):Prop:=
 ∃ k:Nat,k≤l.length∧i=.int .i64 k∧In F0 w0 wr (Cells g (aC (ma a k q) pv).toArray 59::Cells (g+1) (aC aM (.slice none 0 0)).toArray 59::gq pv q.au::ay 129 1 fv l.length (Cx bb l)::Cells bb #[TT] 299::(boxesR a l++R))
theorem TA {r:Rec} {A:Option Addr} {c:Nat} {a b:Int} (hab:1≤a∧a≤b∧b≤3) (hs:gZ F0 w0 R A r.au) (hn:A=none→c=0) (hl:r.au.length≤1000000) (h:In F0 w0 w R):Calls Tryz.prog 172 #[tq r A c,.int .i64 a,.int .i64 b] w (nJ (ny a b r) F0 w0 R):=by
 have HTB:(ny a b r).au=(dB r a).au:=jQ a _ _
 obtain⟨q,hq⟩:∃ q,q=dB r a:=⟨_,rfl⟩
 have HTR:ny a b r=ma a (b - a).toNat q:=by rw [hq];rfl
 obtain⟨C0,hC0⟩:∃ C,C=(aC r (.slice A r.au.length c)).toArray:=⟨_,rfl⟩
 have h2:=((h.cells C0 59).cells (aC aM (.slice none 0 0)).toArray 59)
 simp only [World.size_alloc] at h2
 have K1:=Kl (c:=c) a (fun w' h'=>hs w' h'.drop.drop) hn hl h2
 unfold nJ at K1
 rw [← hq] at K1
 have JA:=Lib.hid K1
 have YW:=Lib.hid hab
 unfold nJ
 rw [HTB,← hq,HTR]
 have HC:=Lib.hid hC0
 clear h h2 hs hn hl hab HTB HTR K1 hq
 obtain⟨kind,⟨⟨src,dst,proto,ag,ah⟩,bN,aJ,aA⟩,gen,au,bk,till,count⟩:=r
 subst hC0
 clear HC
 go_enter Tryz.func172,Tryz.ntmps172
 go_wp2_with fail
 generalize w.heap.size=g at *
 refine JA.out.mono ?_
 rintro e w1 ⟨pv,rfl,g1⟩
 obtain⟨Fp,rp⟩:=g1.get 0 rfl
 obtain⟨pa,pc,rfl,-,-,-⟩:=ay.shape rp
 have ht:=dX (g1.block 2 rfl)
 have g2:=(g1.eX 2 rfl (xs:=aC q (.slice pa q.au.length pc)) (b:=g) (T:=59) rfl).aL (R1:=[_,_,_]) [2,1,0] (by decide) rfl
 have K2:=Lib.hid (Ph YW.out g2)
 clear JA g1 rp g2
 go_wp2_with (refine wpList_store_mid (op:=⟨none,Op.store 59 (.tmp 3) (.tmp 11),_,_,_,_⟩) (by rfl) 59 (.tmp 3) (.tmp 11) rfl g 0 (aC q (.slice pa q.au.length pc)).toArray (by rfl) (by rfl) ht (by kernel_rfl) (ig _ _ _ _) ?_)
 refine K2.out.mono ?_
 rintro e w2 ⟨bb,l,ra,rc,rfl,hlen,g3⟩
 have hll:l.length≤3:=by have:=YW.out;omega
 have g4:In F0 w0 w2 (Cells g (aC q (.slice pa q.au.length pc)).toArray 59::Cells (g+1) (aC aM (.slice none 0 0)).toArray 59::gq (.slice pa q.au.length pc) q.au::ay 129 1 (.slice ra l.length rc) l.length (Cx bb l)::Cells bb #[TT] 299::(boxesR a l++R)):=by
  refine g3.perm ?_
  have e:(boxesR a l++[Cells g (aC q (.slice pa q.au.length pc)).toArray 59,Cells (g+1) (aC aM (.slice none 0 0)).toArray 59,gq (.slice pa q.au.length pc) q.au]++R).Perm ([Cells g (aC q (.slice pa q.au.length pc)).toArray 59,Cells (g+1) (aC aM (.slice none 0 0)).toArray 59,gq (.slice pa q.au.length pc) q.au]++boxesR a l++R):=List.perm_append_comm.append_right _
  have e2:=(e.cons (Cells bb #[TT] 299)).cons (ay 129 1 (.slice ra l.length rc) l.length (Cx bb l))
  rw [List.append_assoc] at e2
  refine e2.trans ?_
  have e3:([ay 129 1 (.slice ra l.length rc) l.length (Cx bb l),Cells bb #[TT] 299]++[Cells g (aC q (.slice pa q.au.length pc)).toArray 59,Cells (g+1) (aC aM (.slice none 0 0)).toArray 59,gq (.slice pa q.au.length pc) q.au]).Perm ([Cells g (aC q (.slice pa q.au.length pc)).toArray 59,Cells (g+1) (aC aM (.slice none 0 0)).toArray 59,gq (.slice pa q.au.length pc) q.au]++[ay 129 1 (.slice ra l.length rc) l.length (Cx bb l),Cells bb #[TT] 299]):=List.perm_append_comm
  exact e3.append_right (boxesR a l++R)
 have HR:Hid (Gq a q (.slice pa q.au.length pc) g (.slice ra l.length rc) bb l F0 w0 R (.int .i64 0) w2):=Lib.hid ⟨0,Nat.zero_le _,rfl,g4⟩
 have iT:Hid ((b - a).toNat=l.length∧a+(l.length:Int)≤3):=Lib.hid (by have:=YW.out;omega)
 have HLL:=Lib.hid hll
 clear g3 g4 K2 hlen hll ht
 go_wp2_with fail
 go_loopw [16] (Gq a q (.slice pa q.au.length pc) g (.slice ra l.length rc) bb l F0 w0 R) (fun k _=>l.length - (intOf k).toNat)
 case atStart=>exact HR.out
 case round=>
  obtain⟨k,hk,rfl,dh⟩:=hrel
  clear HR
  by_cases hlt:k < l.length
  ·obtain⟨x,hx⟩:∃ x,l[k]?=some x:=⟨l[k],List.getElem?_eq_getElem hlt⟩
   obtain⟨Fr,rr⟩:=dh.get 3 rfl
   obtain⟨gr,rfl,c0⟩:=rr.at.2 k (VZ bb x) (by simp [hx])
   have hlt':(k:Int) < (l.length:Int):=Int.ofNat_lt.2 hlt
   have hw2:wrap64 ((k:Int)+1)=(k:Int)+1:=by have:=HLL.out;unfold wrap64;omega
   have hyb:=jQ a q k
   have abb:=jQ a q (k+1)
   have KC:=Wd (r:=ma a k q) (s:=a+k) (by have:=YW.out;have:=iT.out.2;omega) pa pc (bb:=bb) (vb:=x) 4 (k+5) rfl (by
    show (boxesR a l++R)[k]?=_
    rw [List.getElem?_append_left (by rw [Ch];exact hlt)]
    exact Eb l a k x hx) dh
   unfold tq at KC
   rw [hyb] at KC
   have XU:=Lib.hid KC
   obtain⟨q1,q2⟩:wr.heap[g]?=some (.cells (aC (ma a k q) (.slice pa q.au.length pc)).toArray 59 (0,0))∧True:=⟨dh.block 0 rfl,trivial⟩
   have Q1:=Lib.hid q1
   have HK:Hid (k+1≤l.length):=Lib.hid hlt
   have HM:=Lib.hid (dS hlt')
   have HS:Hid (rR (a+k) (ma a k q)=ma a (k+1) q):=Lib.hid rfl
   clear dh rr hk hx KC q1 q2 hyb abb hlt
   obtain⟨y,hy⟩:∃ y,y=ma a k q:=⟨_,rfl⟩
   rw [← hy] at XU Q1 HS
   clear hy
   obtain⟨y',hy'⟩:∃ y',y'=rR (a+k) y:=⟨_,rfl⟩
   rw [← hy'] at XU HS
   clear hy'
   go_wp2_with (refine wpList_load_row rfl 59 (.tmp 3) rfl g rfl 59 _ (0,0) _ Q1.out Tryz.underlying59 rfl (by kernel_rfl) ?_)
   refine XU.out.mono ?_
   rintro e w3 ⟨rfl,g5⟩
   have ht:=dX (g5.block 0 rfl)
   have g6:=g5.eX 0 rfl (xs:=aC y' (.slice pa q.au.length pc)) (b:=g) (T:=59) rfl
   have HR:Hid (Gq a q (.slice pa q.au.length pc) g (.slice (some ⟨gr,0,none⟩) l.length rc) bb l F0 w0 R (.int .i64 ((k:Int)+1)) (w3.setCells g 0 (aC y' (.slice pa q.au.length pc)))):=Lib.hid ⟨k+1,HK.out,by rw [Int.natCast_add];rfl,by rw [← HS.out];exact g6⟩
   clear g5 g6 XU Q1
   go_wp2_with (refine wpList_store_mid (op:=⟨none,Op.store 59 (.tmp 3) (.tmp 22),_,_,_,_⟩) (by rfl) 59 (.tmp 3) (.tmp 22) rfl g 0 (aC y' (.slice pa q.au.length pc)).toArray (by rfl) (by rfl) ht (by kernel_rfl) (ig _ _ _ _) ?_)
   go_roundw
   case rel=>(try rw [hw2]);exact HR.out
   case measure=>(try rw [hw2]);exact HM.out
  ·have hge:(l.length:Int)≤(k:Int):=Int.ofNat_le.2 (Nat.le_of_not_lt hlt)
   obtain rfl:k=l.length:=by omega
   rw [← iT.out.1] at dh
   have hyb:=jQ a q (b - a).toNat
   obtain⟨y,hy⟩:∃ y,y=ma a (b - a).toNat q:=⟨_,rfl⟩
   rw [← hy] at dh
   have HY:=Lib.hid hy
   have q1:=dh.block 0 rfl
   have ht:=dX (dh.block 1 rfl)
   have g6:=dh.eX 1 rfl (xs:=aC y (.slice pa q.au.length pc)) (b:=g+1) (T:=59) rfl
   have Q3:Hid ((wr.setCells (g+1) 0 (aC y (.slice pa q.au.length pc))).heap[g+1]?=some (.cells (aC y (.slice pa q.au.length pc)).toArray 59 (0,0))):=Lib.hid (g6.block 1 rfl)
   have G:Hid (In F0 w0 (wr.setCells (g+1) 0 (aC y (.slice pa q.au.length pc))) (gq (.slice pa q.au.length pc) q.au::R)):=Lib.hid (by
    have:=(g6.aL (R1:=[_,_,_,_,_]) [2] (by decide) rfl)
    exact (this.perm (List.perm_middle.symm:(gq (.slice pa q.au.length pc) q.au::(boxesR a l++R)).Perm (boxesR a l++gq (.slice pa q.au.length pc) q.au::R))).WY _)
   have Q1:=Lib.hid q1
   clear dh hk hlt hyb hy q1 g6
   go_wp2_with (first | (refine wpList_load_row rfl 59 (.tmp 3) rfl g rfl 59 _ (0,0) _ Q1.out Tryz.underlying59 rfl (by kernel_rfl) ?_) | (refine wpList_store_mid (op:=⟨none,Op.store 59 (.tmp 6) (.tmp 24),_,_,_,_⟩) (by rfl) 59 (.tmp 6) (.tmp 24) rfl (g+1) 0 (aC y (.slice pa q.au.length pc)).toArray (by rfl) (by rfl) ht (by kernel_rfl) (ig _ _ _ _) ?_))
   exact bodyPost_ret (results_cell_row Tryz.results172 _ _ (g+1) 59 _ (0,0) _ rfl Q3.out Tryz.underlying59 rfl (by kernel_rfl)) rfl ⟨_,by rw [HY.out],G.out⟩
end
theorem YX:(Tryz.prog.info? 110).map (fun i=>(i.zero.map (fun z=>z.cells.size),i.size,i.bytes))=some (some 2,2,16):=by kernel_rfl
theorem We (l:List (Int×Int)):∀ u∈(l.map mi).flatten,u.oneCell'=true:=by
 intro u hu
 obtain⟨x,hx,hu⟩:=List.mem_flatten.1 hu
 obtain⟨y,_,rfl⟩:=List.mem_map.1 hx
 simp only [mi,List.mem_cons,List.not_mem_nil,or_false] at hu
 rcases hu with rfl | rfl <;> rfl
section
variable {F0:List Nat} {w0 w:World} {R:List ax}
theorem Gr (h:In F0 w0 w R) {ad:Addr} {l:List (Int×Int)} {c:Nat} (hs:Src w (some ad) l.length 2 ((l.map mi).flatten)) (hn:l.length≤1000000) :
  Calls Tryz.prog 171 #[.slice (some ad) l.length c] w fun e w'=>∃ v,e=.returned v∧In F0 w0 w' (xA v l::R):=by
 have HH:=Lib.hid h
 have HS:=Lib.hid hs
 clear h hs
 have hq:∀ (w:World) (a:Option Addr) (n c n' c':Nat),(binOp .eql 23 (.slice a n c) (.slice none n' c')).run Tryz.prog w=.ok (.bool a.isNone) w:=fun w a n c n' c'=>Lib.run_eql_slice_nil w _ _ a n c n' c' Tryz.underlying23
 go_enter Tryz.func171,Tryz.ntmps171
 go_wp2_with (at_builtin;refine iG rfl ((HH.out.cells #[] 110).row0 (k:=2) 0 rfl) 0 rfl (.tmp 5) (.tmp 6) 23 (by rfl) Tryz.underlying23 YX (by decide) (by decide) (by rfl) (by rfl) (pV HS.out _) (We _) (by omega) ?_)
 intro v' w3 ho hg
 have HO:Hid (In F0 w0 w3 (xA v' l::R)):=Lib.hid (by simpa using ho)
 clear ho hg
 go_wp2_with fail
 go_ret
 exact⟨_,rfl,HO.out⟩
theorem Gs (h:In F0 w0 w R):Calls Tryz.prog 171 #[.slice none 0 0] w fun e w'=>∃ v,e=.returned v∧In F0 w0 w' (xA v []::R):=by
 have HH:=Lib.hid (h.dz 110 2)
 clear h
 have hq:∀ (w:World) (a:Option Addr) (n c n' c':Nat),(binOp .eql 23 (.slice a n c) (.slice none n' c')).run Tryz.prog w=.ok (.bool a.isNone) w:=fun w a n c n' c'=>Lib.run_eql_slice_nil w _ _ a n c n' c' Tryz.underlying23
 go_enter Tryz.func171,Tryz.ntmps171
 go_wp2_with fail
 go_ret
 exact⟨_,rfl,HH.out⟩
theorem Ec (h:In F0 w0 w R) {A:Option Addr} {c:Nat} {l:List (Int×Int)} (hn:A=none→c=0) (hs:Src w A l.length 2 ((l.map mi).flatten)) (hl:l.length≤1000000) :
  Calls Tryz.prog 171 #[.slice A l.length c] w fun e w'=>∃ v,e=.returned v∧In F0 w0 w' (xA v l::R):=by
 cases A with
 | none=>
  obtain rfl:=hn rfl
  have:l=[]:=by
   cases l with
   | nil=>rfl
   | cons b l=>obtain⟨ad,e,_⟩:=hs.at' (by simp [mi]);cases e
  subst this
  exact Gs h
 | some ad=>exact Gr h hs hl
end
def cs0:ae×Option pK×Int:=createS 1 200 (iU 5000)
def YY:SD:=(cs0.1,cs0.2.1.getD default)
def rA:Rec:=⟨1,⟨⟨0,0,6,0,0⟩,3,0,0⟩,0,[],0,0,0⟩
def rB:Rec:=⟨2,⟨⟨0,0,6,0,0⟩,3,0,0⟩,0,[],0,0,0⟩
def cs1:SD×Int:=bW rA YY
def cs2:SD×Int:=bW rB cs1.1
def cs3:SD×Int:=fq cs2.1.2.l.m.ak cs2.1.2.st cs2.1
theorem rW.aat {s:SD} {Fr:List cz} {k n:Nat} (h:rW s Fr k (n+1)) {r:Rec} (wr:nS r):∃ zt,rW (bW r s).1 zt k n:=by
 rcases (h.write wr).2.2.2 with ⟨_,f,g⟩|⟨_,g⟩
 ·exact⟨_,g⟩
 ·rw [g];exact⟨Fr,h.less (Nat.le_succ n)⟩
section
variable {F0:List Nat} {w0 w:World} {R:List ax} {sb lb bd dA:Nat}
end
theorem gH.LQ {s:SD} {Fr mD:List cz} {k k0 z:Nat} (h:gH s Fr k mD k0) (hs:s.2.l.size=z) (hz:16≤z∧z≤1048576):ib s.2.l:=⟨by rw [hs];exact hz.1,by rw [hs];exact hz.2,h.log.now.1⟩
theorem aaF {t:eT} (h:gm t):t.au.length≤1000000∧t.bL.length≤1000000∧t.bS.length≤1000000:=by
 obtain⟨h1,h2,h3⟩:=h.lens
 exact⟨by omega,by omega,by omega⟩
theorem Pj {d:ae} {l:bI} {Fr:List cz} {s:Nat} (h:eZ d l.m Fr s) (hl:l.loose=false) (hf:d.fail=0):(fM (d,l)).2=0:=by
 have hset:aY (d,l)=((d,l),0):=by unfold aY;simp [hl]
 obtain⟨C,L,k,g1,_,g3⟩:=h.now.2.2
 obtain⟨i,i1,_,_⟩:=g1.last
 rw [← jJ g1.len] at i1
 unfold fM
 rw [hset,aT (r:=((d,l),(0:Int))) rfl]
 show (aW d (bz l)).2=0
 rw [sU hf i1]
structure Ci (z:Nat) (v:Int) (B n x:Nat) (s:SD):Prop where
 inv:∃ Fr k,gH s Fr k Fr k
 loose:s.2.l.loose=false
 rm:Rm s.1 B n
 only:Only s.1 (Mine s.2.l.m.aa)
 size:s.2.l.size=z
 ak:(s.2.l.m.ak:Int)=v
 fmt:nD v s.2.st
 next:s.2.l.m.next≤x
def abv (z:Nat) (v:Int) (st:eT):Nat:=(yF z ((dR v st).map aj) (0,0)).1
theorem join_le {c:Nat}:∀ {R:List cz},(∀ f∈R,(aj f).length≤c)→(aV R).length≤c * R.length
 | [],_=>Nat.zero_le _
 | f::R,h=>by
  have h1:=join_le (R:=R) (fun g hg=>h g (List.mem_cons_of_mem _ hg))
  have h2:=h f (by simp)
  have e:(aV (f::R)).length=(aj f).length+(aV R).length:=by simp [aV]
  rw [e,List.length_cons,Nat.mul_add]
  omega
theorem TB {st:eT} (h:gm st) {v:Int} (hv:di v=true):(aV (dR v st)).length≤60000:=by
 have h1:(aV (dR v st)).length≤216 * (dR v st).length:=join_le (fun f hf=>by
  obtain⟨r,hr,rfl⟩:=List.mem_map.1 hf
  obtain⟨w1,w2,w3⟩:=nS.recs h r hr
  have:=Nl hv w2
  rw [dJ];omega)
 have h2:(dR v st).length≤273:=by unfold dR;rw [List.length_map];exact rq h
 omega
theorem kP.cp {z:Nat} {v:Int} {s:SD} (h:kP 60 z v s):Ci z v 200000 138 62 s:=by
 obtain⟨Fr,kk,g⟩:=h.nt
 have hn:=Pg (g.so.inv.EK g.so.loose) g.only
 have hs:=g.aa
 have hx:=g.next
 refine⟨⟨Fr,kk,g.so.inv⟩,g.so.loose,⟨g.rm.fail,?_,?_,g.rm.small⟩,g.only,h.su.size,h.ak,h.fmt,by omega⟩
 ·have:=g.rm.bytes;omega
 ·omega
section
variable {F0:List Nat} {w0 w:World} {R:List ax} {st:eT}
def abd (st:eT) (ak:Int) (rv pv:Value) (F0:List Nat) (w0:World) (R:List ax) (v i:Value) (wr:World):Prop:=
 ∃ k:Nat,k≤(aS st).length∧i=.int .i64 k∧v=.int .i64 ((aV ((dR ak st).take k)).length:Nat)∧In F0 w0 wr (ay 59 14 rv (aS st).length (recsV pv (aS st))::gq pv st.au::R)
end
structure Gt (s:SD) (n:Nat):Prop where
 lg:ib s.2.l
 inv:∃ Fr k,iB s.1 s.2.l Fr k Fr k
 ops:s.1.ops≤n
 ok:gm s.2.st
theorem Ci.YZ {z:Nat} {v:Int} {B n x:Nat} {s:SD} (h:Ci z v B n x s) (hz:16≤z∧z≤1048576) {m:Nat} (ho:s.1.ops≤m):Gt s m:=by
 obtain⟨Fr,k,g⟩:=h.inv
 exact⟨g.LQ h.size hz,⟨Fr,k,g.log⟩,ho,g.ok⟩
def abw (size:Int) (d:ae) (t:eT):Prop:=∃ d' l,mg 3 size d=(d',some ⟨l,t,t⟩,0)
section
variable {F0:List Nat} {w0 w:World} {R:List ax} {sb lb bd dA:Nat}
def Za (s:SD):Nat:=(aV (dR (s.2.l.m.ak:Int) s.2.st)).length
def abe (s:SD) (size:Int):Bool:=decide (size < (Ws (s.1,s.2.l):Int)) && decide (2 * (Za s:Int) < (Ws (s.1,s.2.l):Int))
end
def aau (s:eT) (r:Rec):eT:=if r.au.length≤40 then (aX s r).1 else s
def abx (l:List Rec):eT:=l.foldl aau aH
def aby (s:eT):Nat:=s.bL.length+s.bS.length
theorem Mc {s:SD} {v:Int} {st:eT} (hl:ib s.2.l) (hok:gm st) (hv:di v=true):(fq v st s).1.1.ops≤s.1.ops+2000:=by
 unfold fq
 split
 ·show s.1.ops≤_;omega
 ·have hb:∀ b∈(dR v st).map aj,b.length≤5000:=by
   intro b hb
   obtain⟨f,hf,rfl⟩:=List.mem_map.1 hb
   have:=(rows_ok hok hv f hf).1.body
   rw [dJ];omega
  have:=LX (ak:=v.toNat) (d:=s.1) hl hb
  have hn:=rq hok
  simp only [dR,List.length_map] at this
  show (fD _ _ (s.1,s.2.l)).1.1.ops≤_
  simp only [dR]
  omega
def uf (a b:Int) (f:Fl):Fl:=⟨f.t,f.bk,if a < 2 then (if 2≤b then 1 else 0) else f.gen,if a < 3 then 0 else f.seen⟩
def eD (a b:Int) (s:eT):eT:=⟨s.gen,s.au.map (eU a),s.bL,s.bS.map (uf a b)⟩
theorem TC {a b:Int} {f:Fl} (h:si f):si (uf a b f):=by
 obtain⟨h1,h2,h3,h4,h5,h6,h7⟩:=h
 refine⟨h1,h2,h3,?_,?_,?_,?_⟩ <;> simp only [uf]
 ·repeat' split
  all_goals omega
 ·repeat' split
  all_goals omega
 ·repeat' split
  all_goals omega
 ·repeat' split
  all_goals omega
theorem gm.img {s:eT} (h:gm s) (a b:Int):gm (eD a b s):=by
 obtain⟨a1,a2,a3,a4,a5,a6,a7,a8,a9,Uj,Uk⟩:=h
 refine⟨a1,a2,qZ a3,fun x hx=>?_,a5,a6,a7,?_,fun f hf=>?_,fun f hf=>?_,by simpa [eD] using Uk⟩
 ·obtain⟨y,hy,rfl⟩:=List.mem_map.1 hx
  rw [(zF a y).2];exact a4 y hy
 ·show nH (s.bS.map (uf a b))
  unfold nH;rw [List.pairwise_map];exact a8
 ·obtain⟨y,hy,rfl⟩:=List.mem_map.1 hf;exact a9 y hy
 ·obtain⟨y,hy,rfl⟩:=List.mem_map.1 hf;exact TC (Uj y hy)
theorem Jt {b:Int} (hb:2≤b) (x:Bk):eU b x=x:=by unfold eU;rw [if_neg (by omega)]
theorem TD {a b:Int} (hab:a < b) (hb:2≤b) (f:Fl):nG b (uf a b f)=uf a b f:=by
 unfold nG uf
 simp only
 congr 1
 ·rw [if_neg (by omega)]
 ·split
  ·rw [if_pos (by omega)]
  ·rfl
theorem zW {a b:Int} (ha:1≤a) (hab:a < b) (s:eT):nD b (eD a b s):=by
 refine⟨fun f hf=>?_,fun x hx=>Jt (by omega) x⟩
 obtain⟨y,hy,rfl⟩:=List.mem_map.1 hf
 exact TD hab (by omega) y
theorem Wh (s:eT):eD 2 3 (eD 1 2 s)=eD 1 3 s:=by
 unfold eD
 simp only [List.map_map]
 have h1:eU 2 ∘ eU 1=eU 1:=by funext x;exact Jt (by decide) _
 have h2:uf 2 3 ∘ uf 1 2=uf 1 3:=by
  funext f
  show uf 2 3 (uf 1 2 f)=uf 1 3 f
  unfold uf
  simp only
  congr 1
 rw [h1,h2]
theorem TE (v:Int) (s:eT):nD v (eG v s):=by
 refine⟨fun f hf=>?_,fun x hx=>?_⟩
 ·obtain⟨y,_,rfl⟩:=List.mem_map.1 hf;exact DZ v y
 ·obtain⟨y,_,rfl⟩:=List.mem_map.1 hx;exact Ea v y
theorem Pk {d:ae} {l:bI} {Fr:List cz} {k B n:Nat} (h:eZ d l.m Fr k) (hl:l.loose=false) (ho:Only d (Mine l.m.aa)) {ak:Nat} (iK:1≤ak∧ak≤3) {R:List cz} (hR:∀ f∈R,ji f∧f.ak=ak) (hne:R≠[]) (hr:Rm d (B+278+(aV R).length) (n+65)) (hx:l.m.next+64≤1000000)
  (h4:(fD ak (R.map aj) (d,l)).2≠0):(fD ak (R.map aj) (d,l)).1.2.m=l.m:=by
 have hset:aY (d,l)=((d,l),0):=by unfold aY;simp [hl]
 rcases Nk h hl ho iK hR hne hr hx with b | ⟨_,b2⟩
 ·exact absurd b.ok h4
 rcases Tw (K:=Mine l.m.aa) (B:=B+278) (n:=n+1) h.ok h.now.1 hx R hR hne (hr.le (by omega) (by omega)) ho with q | ⟨q1,q2⟩
 ·obtain⟨_,_,q3,_,q5⟩:=q
  have:=congrArg Prod.fst q3
  simp only at this
  omega
 ·unfold fD
  rw [hset]
  simp only
  rw [if_neg (by simp),if_pos (by rw [q1];decide)]
theorem Ci.Zb {z:Nat} {v:Int} {B n x:Nat} {s:SD} (h:Ci z v (B+60278) (n+65) x s) (hx:x+64≤1000000) {b:Int} {t:eT} (hb:v≤b∧b≤3) (ht:gm t) :
  ((fq b t s).2=0∧Ci z b B n (x+64) (fq b t s).1∧(fq b t s).1.2.st=eG b t∧(fq b t s).1.2.sure=eG b t) ∨
  ((fq b t s).2=4∧((fq b t s).1.2.l.m.ak:Int)=v):=by
 obtain⟨⟨Fr,k,hi⟩,hl,hr,ho,hz,iK,hf,hn⟩:=h
 have hvk:=hi.ak
 have hv3:=hvk
 unfold di at hv3
 simp only [decide_eq_true_eq] at hv3
 have hbk:di b=true:=by unfold di;simp;omega
 obtain⟨a1,a2⟩:=hi.swap (v:=b) ht ⟨by omega,hb.2⟩
 have hne:dR b t≠[]:=by unfold dR aS;simp
 have hlen:=TB ht hbk
 have hr':Rm s.1 (B+278+(aV (dR b t)).length) (n+65):=hr.le (by omega) (Nat.le_refl _)
 have c:=Nk (B:=B) (n:=n) (hi.EK hl) hl ho (ak:=b.toNat) (by omega) (rows_ok ht hbk) hne hr' (by omega)
 have c':=Pk (B:=B) (n:=n) (hi.EK hl) hl ho (ak:=b.toNat) (by omega) (rows_ok ht hbk) hne hr' (by omega)
 rw [show fD b.toNat ((dR b t).map aj) (s.1,s.2.l)=fZ b t s from rfl] at c c'
 have e1:(fq b t s).2=(fZ b t s).2∧(fq b t s).1.1=(fZ b t s).1.1∧(fq b t s).1.2.l=(fZ b t s).1.2:=by
  unfold fq
  rw [if_neg (by omega)]
  exact⟨rfl,rfl,rfl⟩
 obtain⟨e1,e2,e3⟩:=e1
 rcases c with c | ⟨c1,c2⟩
 case inr=>exact Or.inr ⟨by rw [e1];exact c1,by rw [e3,c' (by rw [c1];decide)];exact iK⟩
 left
 obtain⟨b1,b2,b3,b4,b5,b6⟩:=c
 rcases a2 with ⟨_,g1,g2,g3,g4,g5⟩|⟨g,_⟩
 case inr=>exact absurd (e1.trans b1) g
 refine⟨e1.trans b1,⟨⟨_,_,g4⟩,g1,by rw [e2];exact b2,by rw [e2,e3];exact b3,by rw [a1];exact hz,g2,by rw [g5];exact TE b t,?_⟩,g5,g3⟩
 rw [e3,b5]
 omega
def qK (b:Int) (s:SD):SD×Int:=
 if b < s.2.l.m.ak∨3 < b then (s,10) else if b=s.2.l.m.ak then (s,0) else fq b (eD s.2.l.m.ak b s.2.st) s
theorem Gu {b:Int} {s:SD} (h:b < s.2.l.m.ak∨3 < b):qK b s=(s,10):=if_pos h
theorem qI {b:Int} {s:SD} (h:b=s.2.l.m.ak) (h3:b≤3):qK b s=(s,0):=by
 unfold qK
 rw [if_neg (by omega),if_pos h]
theorem vU {b:Int} {s:SD} (h:(s.2.l.m.ak:Int) < b) (h3:b≤3):qK b s=fq b (eD s.2.l.m.ak b s.2.st) s:=by
 unfold qK
 rw [if_neg (by omega),if_neg (by omega)]
theorem Ci.up {z:Nat} {v:Int} {B n x:Nat} {s:SD} (h:Ci z v (B+60278) (n+65) x s) (hx:x+64≤1000000) {b:Int} (hb:v < b∧b≤3) :
  ((qK b s).2=0∧Ci z b B n (x+64) (qK b s).1∧(qK b s).1.2.st=eD v b s.2.st∧(qK b s).1.2.sure=eD v b s.2.st)∨((qK b s).2=4∧((qK b s).1.2.l.m.ak:Int)=v):=by
 obtain⟨Fr,k,hi⟩:=h.inv
 have hv:=hi.ak
 unfold di at hv
 simp only [decide_eq_true_eq] at hv
 have iK:=h.ak
 rw [vU (by omega) hb.2,iK]
 have e:eG b (eD v b s.2.st)=eD v b s.2.st:=(zW (by omega) hb.1 s.2.st).eq
 rcases h.Zb hx ⟨by omega,hb.2⟩ (hi.ok.img v b) with ⟨a1,a2,a3,a4⟩|⟨a1,a2⟩
 ·exact Or.inl ⟨a1,a2,by rw [a3,e],by rw [a4,e]⟩
 ·exact Or.inr ⟨a1,a2⟩
end Go.Proofs.YtanhdliaaccacaaGreat
