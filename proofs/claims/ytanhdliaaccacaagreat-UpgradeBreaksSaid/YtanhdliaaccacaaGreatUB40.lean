/- .. -/
import Derived.Test.YtanhdliaaccacaaGreatUB39
namespace Go.Proofs.YtanhdliaaccacaaGreat
open Go.RowKit
set_option linter.unusedVariables false
set_option maxHeartbeats 64000000
set_option maxRecDepth 100000
theorem TF {x:Int} (hx:di x=true) (y:Int) (l:List Bk):(ny x y ⟨3,⟨⟨0,0,0,0,0⟩,0,0,0⟩,0,l,0,0,0⟩).au=l.map (eU x):=by
 unfold ny
 rw [jQ]
 unfold dB
 rw [if_neg (by simp [hx])]
 rfl
theorem Wi {x y:Int} (h:1≤x∧x≤y∧y≤3) (f:Fl):(ny x y ⟨1,f,0,[],0,0,0⟩).fl=uf x y f:=by
 obtain⟨t,b,g,s⟩:=f
 have hx:x=1∨x=2∨x=3:=by omega
 have hy:y=1∨y=2∨y=3:=by omega
 rcases hx with rfl | rfl | rfl <;> rcases hy with rfl | rfl | rfl <;> first | rfl | (exfalso;omega)
theorem Ju (x y:Int) (f:Fl):(ny x y ⟨1,f,0,[],0,0,0⟩).au=[]:=by
 unfold ny
 rw [jQ]
 unfold dB
 split
 ·rfl
 ·rfl
theorem Pm (x0 x1 x2 x3 x4 x5 x6 x7 x8 x9 x10 YQ YR x13:Value) (w:World):(Instr.field 59 (.agg #[x0,x1,x2,x3,x4,x5,x6,x7,x8,x9,x10,YQ,YR,x13]) 3).run Tryz.prog w=.ok x10 w:=by kernel_rfl
theorem TG (x0 x1 x2 x3 x4 x5 x6 x7 x8 x9 x10 YQ YR x13:Value) (w:World):(Instr.field 59 (.agg #[x0,x1,x2,x3,x4,x5,x6,x7,x8,x9,x10,YQ,YR,x13]) 1).run Tryz.prog w=.ok (.agg #[x1,x2,x3,x4,x5,x6,x7,x8]) w:=by kernel_rfl
theorem Wj:(Tryz.prog.info? 49).map (fun i=>(i.zero.map (fun z=>z.cells.size),i.size,i.bytes))=some (some 8,8,56):=by kernel_rfl
theorem Wl {x y:Int} (h:1≤x∧x≤y∧y≤3) (w:World):Calls Tryz.prog 170 #[.int .i64 x,.int .i64 y] w fun e w'=>e=.returned (.bool true)∧w=w':=by
 obtain⟨h1,h2,h3⟩:=h
 go_enter Tryz.func170,Tryz.ntmps170
 go_wp2_with fail
 go_ret
 exact⟨rfl,rfl⟩
section
variable {F0:List Nat} {w0 w:World} {R:List ax}
def aav (s:eT) (g:Nat) (A:Option Addr) (a:Nat) (D:Option Addr) (d:Nat) (F:Option Addr) (f:Nat) (F0:List Nat) (w0:World) (R:List ax) (x8:Value) (wx:World):Prop:=
 ∃ tb D' d',x8=.pointer (some ⟨tb,0,none⟩)∧In F0 w0 wx (Cells tb #[.int .i64 s.gen,.slice none 0 0,.slice D' s.bL.length d',.slice none 0 0] 26::xA (.slice D' s.bL.length d') s.bL::Cells (g+1) #[.int .i64 0,.slice none 0 0,.slice none 0 0,.slice none 0 0] 26::Cells g #[.int .i64 s.gen,.slice A s.au.length a,.slice D s.bL.length d,.slice F s.bS.length f] 26::R)
def Gv (s:eT) (x y:Int) (g tb:Nat) (A:Option Addr) (a:Nat) (D:Option Addr) (d:Nat) (F:Option Addr) (f:Nat) (pa:Option Addr) (pc:Nat) (D':Option Addr) (d':Nat) (F0:List Nat) (w0:World) (R:List ax) (i:Value) (wr:World):Prop:=
 ∃ (k:Nat) (va:Option Addr) (vc:Nat),k≤s.bS.length∧i=.int .i64 k∧In F0 w0 wr (ay 49 8 (.slice va k vc) k ((((s.bS.take k).map (uf x y)).map fH).flatten)::Cells tb #[.int .i64 s.gen,.slice pa s.au.length pc,.slice D' s.bL.length d',.slice va k vc] 26::gq (.slice pa s.au.length pc) (s.au.map (eU x))::xA (.slice D' s.bL.length d') s.bL::Cells (g+1) #[.int .i64 0,.slice none 0 0,.slice none 0 0,.slice none 0 0] 26::Cells g #[.int .i64 s.gen,.slice A s.au.length a,.slice D s.bL.length d,.slice F s.bS.length f] 26::R)
theorem Pn {s:eT} {A D F:Option Addr} {a d f:Nat} {x y:Int} (hxy:1≤x∧x≤y∧y≤3) (v:xm F0 w0 R s A D F) (hn:A=none→a=0) (hnd:D=none→d=0) (lb:s.au.length≤1000) (ld:s.bL.length≤1000) (lf:s.bS.length≤1000) (h:In F0 w0 w R) :
  Calls Tryz.prog 90 #[zx s A a D d F f,.int .i64 x,.int .i64 y] w fun e w'=>∃ A' a' D' d' F' f',e=.returned (.tuple #[zx (eD x y s) A' a' D' d' F' f',.int .i64 0])∧In F0 w0 w' (gq (.slice A' (eD x y s).au.length a') (eD x y s).au::xA (.slice D' (eD x y s).bL.length d') (eD x y s).bL::FM (.slice F' (eD x y s).bS.length f') (eD x y s).bS::R):=by
 have hvx:di x=true:=by unfold di;simp;omega
 have h2:=(h.cells #[.int .i64 s.gen,.slice A s.au.length a,.slice D s.bL.length d,.slice F s.bS.length f] 26).cells #[.int .i64 0,.slice none 0 0,.slice none 0 0,.slice none 0 0] 26
 simp only [World.size_alloc] at h2
 obtain⟨g,hg⟩:∃ g,g=w.heap.size:=⟨_,rfl⟩
 obtain⟨w1,hw1⟩:∃ w1,w1=((w.alloc (.cells #[.int .i64 s.gen,.slice A s.au.length a,.slice D s.bL.length d,.slice F s.bS.length f] 26)).alloc (.cells #[.int .i64 0,.slice none 0 0,.slice none 0 0,.slice none 0 0] 26)):=⟨_,rfl⟩
 rw [← hw1,← hg] at h2
 have hsz:w1.heap.size=g+1+1:=by rw [hw1,hg];simp only [World.size_alloc]
 have h3:=h2.drewN 1
 have h4:=(h2.drewN 1).cells #[.int .i64 0,.slice none 0 0,.slice none 0 0,.slice none 0 0] 26
 change In F0 w0 w1.drew _ at h3
 have KW:=Lib.hid (Wl hxy)
 have K1:Hid (Calls Tryz.prog 171 #[.slice D s.bL.length d] w1.drew fun e w'=>∃ v,e=.returned v∧In F0 w0 w' (xA v s.bL::Cells (g+1) #[.int .i64 0,.slice none 0 0,.slice none 0 0,.slice none 0 0] 26::Cells g #[.int .i64 s.gen,.slice A s.au.length a,.slice D s.bL.length d,.slice F s.bS.length f] 26::R)):=Lib.hid (Ec h3 hnd (v.bL _ h3.drop.drop) (Nat.le_trans ld (by decide)))
 have K2:Hid (Calls Tryz.prog 171 #[.slice D s.bL.length d] (w1.drew.alloc (.cells #[.int .i64 0,.slice none 0 0,.slice none 0 0,.slice none 0 0] 26)) fun e w'=>∃ v,e=.returned v∧In F0 w0 w' (xA v s.bL::Cells w1.heap.size #[.int .i64 0,.slice none 0 0,.slice none 0 0,.slice none 0 0] 26::Cells (g+1) #[.int .i64 0,.slice none 0 0,.slice none 0 0,.slice none 0 0] 26::Cells g #[.int .i64 s.gen,.slice A s.au.length a,.slice D s.bL.length d,.slice F s.bS.length f] 26::R)):=Lib.hid (Ec h4 hnd (v.bL _ h4.drop.drop.drop) (Nat.le_trans ld (by decide)))
 have UM:Hid (w1.cell? ⟨g,0,none⟩=some (.int .i64 s.gen)∧w1.cell? ⟨g,2,none⟩=some (.slice D s.bL.length d)):=Lib.hid ⟨cell_of (h2.block 1 rfl) rfl,cell_of (h2.block 1 rfl) rfl⟩
 have HYd:Hid (w1.drew.cell? ⟨g,0,none⟩=some (.int .i64 s.gen)∧w1.drew.cell? ⟨g,2,none⟩=some (.slice D s.bL.length d)):=Lib.hid ⟨cell_of (h3.block 1 rfl) rfl,cell_of (h3.block 1 rfl) rfl⟩
 have HY1:Hid ((w1.drew.alloc (.cells #[.int .i64 0,.slice none 0 0,.slice none 0 0,.slice none 0 0] 26)).cell? ⟨g,0,none⟩=some (.int .i64 s.gen)∧(w1.drew.alloc (.cells #[.int .i64 0,.slice none 0 0,.slice none 0 0,.slice none 0 0] 26)).cell? ⟨g,2,none⟩=some (.slice D s.bL.length d)):=Lib.hid ⟨cell_of (h4.block 2 rfl) rfl,cell_of (h4.block 2 rfl) rfl⟩
 have HT:=Lib.hid (fun (r:Rec) (A':Option Addr) (c':Nat) (R':List ax) (w':World) (h1:gZ F0 w0 R' A' r.au) (h2:A'=none→c'=0) (h3:r.au.length≤1000000) (h':In F0 w0 w' R')=>TA (c:=c') hxy h1 h2 h3 h')
 have HV:=Lib.hid v
 have HL:=Lib.hid (And.intro lb lf)
 have HX:=Lib.hid (And.intro hvx hxy)
 have HW:=Lib.hid hw1
 have HG:=Lib.hid hg
 have HN:=Lib.hid hn
 have HSZ:=Lib.hid hsz
 have hfb:=Pm
 have hff:=TG
 clear h h2 h3 h4 v hn hnd lb ld lf hvx hxy hw1 hg hsz
 go_enter Tryz.func90,Tryz.ntmps90
 go_wp2_with fail
 rw [← HW.out,← HG.out]
 refine (KW.out _).mono ?_
 rintro e w' ⟨rfl,rfl⟩
 clear HW HG KW
 go_upto_region 3 with fail
 go_cut [8] (aav s g A a D d F f F0 w0 R)
 case first=>
  refine rG (fun w'=>w'.cell? ⟨g,0,none⟩=some (.int .i64 s.gen)∧w'.cell? ⟨g,2,none⟩=some (.slice D s.bL.length d)) (by kernel_rfl) HYd.out (fun hS=>?_)
  refine bC (i:=0) (v:=?_) rfl (by kernel_rfl) (fun _ _ _ h=>h) (by rfl) ?_ hS ?_
  rotate_left
  ·(intro w hSw;(try dsimp only at hSw);go_simp;try with_reducible rfl)
  try simp only [Act.put,List.setIfInBounds_toArray,List.set_cons_zero,List.set_cons_succ]
  refine bC (i:=1) (v:=?_) rfl (by kernel_rfl) (fun _ _ _ h=>h) (by rfl) ?_ hS ?_
  rotate_left
  ·(intro w hSw;(try dsimp only at hSw);go_simp;try with_reducible rfl)
  try simp only [Act.put,List.setIfInBounds_toArray,List.set_cons_zero,List.set_cons_succ]
  refine bC (i:=2) (v:=?_) rfl (by kernel_rfl) (fun _ _ _ h=>h) (by rfl) ?_ hS ?_
  rotate_left
  ·(intro w hSw;(try dsimp only at hSw);go_simp;try with_reducible rfl)
  try simp only [Act.put,List.setIfInBounds_toArray,List.set_cons_zero,List.set_cons_succ]
  refine bC (i:=3) (v:=?_) rfl (by kernel_rfl) (fun _ _ _ h=>h) (by rfl) ?_ hS ?_
  rotate_left
  ·(intro w hSw;(try dsimp only at hSw);go_simp;try with_reducible rfl)
  try simp only [Act.put,List.setIfInBounds_toArray,List.set_cons_zero,List.set_cons_succ]
  refine IG (i:=4) (j:=6) rfl rfl (by kernel_rfl) (fun K' hK=>?_) (fun K' hK=>?_)
  ·go_simp
   go_at_call 171
   refine K1.out.mono ?_
   rintro e w2 ⟨v,rfl,g3⟩
   obtain⟨Fz,rz⟩:=g3.get 0 rfl
   obtain⟨pa,pc,rfl,-,-,-⟩:=ay.shape rz
   have hz:w2.cell? ⟨g,0,none⟩=some (.int .i64 s.gen)∧w2.cell? ⟨g,2,none⟩=some (.slice D s.bL.length d):=⟨cell_of (g3.block 2 rfl) rfl,cell_of (g3.block 2 rfl) rfl⟩
   have hzz:(w2.alloc (.cells #[.int .i64 0,.slice none 0 0,.slice none 0 0,.slice none 0 0] 26)).cell? ⟨g,0,none⟩=some (.int .i64 s.gen)∧(w2.alloc (.cells #[.int .i64 0,.slice none 0 0,.slice none 0 0,.slice none 0 0] 26)).cell? ⟨g,2,none⟩=some (.slice D s.bL.length d):=⟨cell_of ((g3.cells #[.int .i64 0,.slice none 0 0,.slice none 0 0,.slice none 0 0] 26).block 3 rfl) rfl,cell_of ((g3.cells #[.int .i64 0,.slice none 0 0,.slice none 0 0,.slice none 0 0] 26).block 3 rfl) rfl⟩
   have G8:=Lib.hid (g3.cells #[.int .i64 s.gen,.slice none 0 0,.slice pa s.bL.length pc,.slice none 0 0] 26)
   clear g3 hS rz
   refine hK.out _ _ hz (fun hS=>?_)
   clear hK K'
   try simp only [Act.put,List.setIfInBounds_toArray,List.set_cons_zero,List.set_cons_succ]
   refine bC (i:=5) (v:=?_) rfl (by kernel_rfl) (fun _ _ _ h=>h) (by rfl) ?_ hS ?_
   rotate_left
   ·(intro w hSw;(try dsimp only at hSw);go_simp;try with_reducible rfl)
   try simp only [Act.put,List.setIfInBounds_toArray,List.set_cons_zero,List.set_cons_succ]
   refine kC (i:=6) rfl (by kernel_rfl) (fun K' hK=>?_)
   go_simp
   refine hK.out _ _ hzz (fun hS=>?_)
   clear hK K' hzz
   try simp only [Act.put,List.setIfInBounds_toArray,List.set_cons_zero,List.set_cons_succ]
   refine mF (i:=7) rfl (by kernel_rfl) (fun K' hK=>?_)
   go_simp
   refine hK.out _ _ ?_
   clear hK K'
   go_wp2_with fail
   go_meet
   exact⟨_,_,_,rfl,G8.out⟩
  ·go_simp
   clear hS
   refine hK.out _ _ HY1.out (fun hS=>?_)
   clear hK K'
   try simp only [Act.put,List.setIfInBounds_toArray,List.set_cons_zero,List.set_cons_succ]
   refine kC (i:=4) rfl (by kernel_rfl) (fun K' hK=>?_)
   go_simp
   go_at_call 171
   refine K2.out.mono ?_
   rintro e w2 ⟨v,rfl,g3⟩
   obtain⟨Fz,rz⟩:=g3.get 0 rfl
   obtain⟨pa,pc,rfl,-,-,-⟩:=ay.shape rz
   have hz:w2.cell? ⟨g,0,none⟩=some (.int .i64 s.gen)∧w2.cell? ⟨g,2,none⟩=some (.slice D s.bL.length d):=⟨cell_of (g3.block 3 rfl) rfl,cell_of (g3.block 3 rfl) rfl⟩
   have ht:=dX (g3.block 1 rfl)
   have g8:=g3.eX 1 rfl (xs:=[.int .i64 s.gen,.slice none 0 0,.slice pa s.bL.length pc,.slice none 0 0]) (b:=w1.heap.size) (C:=#[.int .i64 0,.slice none 0 0,.slice none 0 0,.slice none 0 0]) (T:=26) rfl
   have G8:=Lib.hid g8
   clear g3 g8 hS rz
   refine hK.out _ _ hz (fun hS=>?_)
   clear hK K'
   try simp only [Act.put,List.setIfInBounds_toArray,List.set_cons_zero,List.set_cons_succ]
   refine bC (i:=5) (v:=?_) rfl (by kernel_rfl) (fun _ _ _ h=>h) (by rfl) ?_ hS ?_
   rotate_left
   ·(intro w hSw;(try dsimp only at hSw);go_simp;try with_reducible rfl)
   try simp only [Act.put,List.setIfInBounds_toArray,List.set_cons_zero,List.set_cons_succ]
   refine mF (i:=7) rfl (by kernel_rfl) (fun K' hK=>?_)
   rw [if_pos (by rfl)]
   refine wp_store_mid 26 (.tmp 8) (.tmp 21) rfl w1.heap.size 0 #[.int .i64 s.gen,.slice none 0 0,.slice pa s.bL.length pc,.slice none 0 0] (by rfl) (by rfl) ht (by kernel_rfl) (oC _ _ _ _ _ _ _ _ _ _) ?_
   refine hK.out _ _ ?_
   clear hK K'
   go_wp2_with fail
   go_meet
   exact⟨_,_,_,rfl,G8.out.aL (R1:=[_,_]) [1,0] (by decide) rfl⟩
 case rest=>
 obtain⟨tb,D',d',rfl,dh⟩:=hcut
 clear K1 K2 UM HYd HY1
 have c1:wc.cell? ⟨g,1,none⟩=some (.slice A s.au.length a):=cell_of (dh.block 3 rfl) rfl
 have KT:=HT.out ⟨3,⟨⟨0,0,0,0,0⟩,0,0,0⟩,0,s.au,0,0,0⟩ A a _ wc (fun w' h'=>HV.out.au w' h'.drop.drop.drop.drop) HN.out (by have:=HL.out;show s.au.length≤_;omega) dh
 unfold nJ at KT
 have e1:=TF HX.out.1 y s.au
 obtain⟨q,hq⟩:∃ q,q=ny x y ⟨3,⟨⟨0,0,0,0,0⟩,0,0,0⟩,0,s.au,0,0,0⟩:=⟨_,rfl⟩
 rw [← hq] at KT e1
 rw [e1] at KT
 have KT1:=Lib.hid KT
 clear dh KT hq e1
 go_wp2_with fail
 refine KT1.out.mono ?_
 rintro e w3 ⟨pv,rfl,g3⟩
 obtain⟨Fp,rp⟩:=g3.get 0 rfl
 rw [← uu] at rp g3
 obtain⟨pa,pc,rfl,-,-,-⟩:=ay.shape rp
 have d1:w3.cell? ⟨tb,1,none⟩=some (.slice none 0 0):=cell_of (g3.block 1 rfl) rfl
 have f1:w3.frozen? ⟨tb,1,none⟩=false:=aK (g3.block 1 rfl)
 have g4:=g3.put (b:=tb) (T:=26) 1 rfl 1 (.slice pa s.au.length pc)
 have e3:(w3.setCell ⟨tb,1,none⟩ (.slice pa s.au.length pc)).cell? ⟨g,3,none⟩=some (.slice F s.bS.length f):=cell_of (g4.block 4 rfl) rfl
 have HR:Hid (Gv s x y g tb A a D d F f pa pc D' d' F0 w0 R (.int .i64 0) (w3.setCell ⟨tb,1,none⟩ (.slice pa s.au.length pc))):=Lib.hid ⟨0,none,0,Nat.zero_le _,rfl,by
  have g5:=(g4.dz 49 8).aL (R1:=[_,_,_,_,_,_]) [0,2,1,3,4,5] (by decide) rfl
  rw [← uu]
  exact g5⟩
 clear g3 g4 rp KT1 c1
 go_wp2_with fail
 go_loopw [33] (Gv s x y g tb A a D d F f pa pc D' d' F0 w0 R) (fun k _=>s.bS.length - (intOf k).toNat)
 case atStart=>exact HR.out
 case round=>
  obtain⟨k,va,vc,hk,rfl,dh⟩:=hrel
  clear HR e3 d1 f1
  by_cases hlt:k < s.bS.length
  ·obtain⟨z,hz⟩:∃ z,s.bS[k]?=some z:=⟨s.bS[k],List.getElem?_eq_getElem hlt⟩
   have hll:=HL.out.2
   obtain⟨gf,fo,rfl,sc⟩:=(HV.out.bS wr dh.drop.drop.drop.drop.drop.drop).plain (by omega) (by decide)
   have c0:wr.cell? ⟨gf,fo+k * 8,none⟩=some (.int .u32 z.t.src):=by
    have:=sc (k * 8+0) _ (by rw [bU (enc:=fH) (k:=8) (fun _=>rfl) hz 0 (by decide)];rfl)
    rwa [← Nat.add_assoc] at this
   have c1:wr.cell? ⟨gf,fo+k * 8+1,none⟩=some (.int .u32 z.t.dst):=by
    have:=sc (k * 8+1) _ (by rw [bU (enc:=fH) (k:=8) (fun _=>rfl) hz 1 (by decide)];rfl)
    rwa [← Nat.add_assoc] at this
   have c2:wr.cell? ⟨gf,fo+k * 8+2,none⟩=some (.int .i64 z.t.proto):=by
    have:=sc (k * 8+2) _ (by rw [bU (enc:=fH) (k:=8) (fun _=>rfl) hz 2 (by decide)];rfl)
    rwa [← Nat.add_assoc] at this
   have c3:wr.cell? ⟨gf,fo+k * 8+3,none⟩=some (.int .i64 z.t.ag):=by
    have:=sc (k * 8+3) _ (by rw [bU (enc:=fH) (k:=8) (fun _=>rfl) hz 3 (by decide)];rfl)
    rwa [← Nat.add_assoc] at this
   have c4:wr.cell? ⟨gf,fo+k * 8+4,none⟩=some (.int .i64 z.t.ah):=by
    have:=sc (k * 8+4) _ (by rw [bU (enc:=fH) (k:=8) (fun _=>rfl) hz 4 (by decide)];rfl)
    rwa [← Nat.add_assoc] at this
   have c5:wr.cell? ⟨gf,fo+k * 8+5,none⟩=some (.int .i64 z.bk):=by
    have:=sc (k * 8+5) _ (by rw [bU (enc:=fH) (k:=8) (fun _=>rfl) hz 5 (by decide)];rfl)
    rwa [← Nat.add_assoc] at this
   have c6:wr.cell? ⟨gf,fo+k * 8+6,none⟩=some (.int .i64 z.gen):=by
    have:=sc (k * 8+6) _ (by rw [bU (enc:=fH) (k:=8) (fun _=>rfl) hz 6 (by decide)];rfl)
    rwa [← Nat.add_assoc] at this
   have c7:wr.cell? ⟨gf,fo+k * 8+7,none⟩=some (.int .i64 z.seen):=by
    have:=sc (k * 8+7) _ (by rw [bU (enc:=fH) (k:=8) (fun _=>rfl) hz 7 (by decide)];rfl)
    rwa [← Nat.add_assoc] at this
   have hlt':(k:Int) < (s.bS.length:Int):=Int.ofNat_lt.2 hlt
   have hw2:wrap64 ((k:Int)+1)=(k:Int)+1:=by unfold wrap64;omega
   obtain⟨fb,Zc⟩:∃ fb,fb=wr.heap.size:=⟨_,rfl⟩
   obtain⟨w4,hw4⟩:∃ w4,w4=wr.alloc (.cells #[.int .u32 z.t.src,.int .u32 z.t.dst,.int .i64 z.t.proto,.int .i64 z.t.ag,.int .i64 z.t.ah,.int .i64 z.bk,.int .i64 z.gen,.int .i64 z.seen] 49):=⟨_,rfl⟩
   have h5:=dh.cells #[.int .u32 z.t.src,.int .u32 z.t.dst,.int .i64 z.t.proto,.int .i64 z.t.ag,.int .i64 z.t.ah,.int .i64 z.bk,.int .i64 z.gen,.int .i64 z.seen] 49
   rw [← hw4,← Zc] at h5
   have h6:=h5.drewN 1
   change In F0 w0 w4.drew _ at h6
   have HYf:Hid (w4.drew.cell? ⟨tb,3,none⟩=some (.slice va k vc)∧w4.drew.cell? ⟨fb,0,none⟩=some (.int .u32 z.t.src)∧w4.drew.cell? ⟨fb,1,none⟩=some (.int .u32 z.t.dst)∧w4.drew.cell? ⟨fb,2,none⟩=some (.int .i64 z.t.proto)∧w4.drew.cell? ⟨fb,3,none⟩=some (.int .i64 z.t.ag)∧w4.drew.cell? ⟨fb,4,none⟩=some (.int .i64 z.t.ah)∧w4.drew.cell? ⟨fb,5,none⟩=some (.int .i64 z.bk)∧w4.drew.cell? ⟨fb,6,none⟩=some (.int .i64 z.gen)∧w4.drew.cell? ⟨fb,7,none⟩=some (.int .i64 z.seen)):=Lib.hid ⟨cell_of (h6.block 2 rfl) rfl,cell_of (h6.block 0 rfl) rfl,cell_of (h6.block 0 rfl) rfl,cell_of (h6.block 0 rfl) rfl,cell_of (h6.block 0 rfl) rfl,cell_of (h6.block 0 rfl) rfl,cell_of (h6.block 0 rfl) rfl,cell_of (h6.block 0 rfl) rfl,cell_of (h6.block 0 rfl) rfl⟩
   have KT:=HT.out ⟨1,⟨⟨z.t.src,z.t.dst,z.t.proto,z.t.ag,z.t.ah⟩,z.bk,z.gen,z.seen⟩,0,[],0,0,0⟩ none 0 _ w4.drew (fun w' h'=>Src.nil _ _ _) (fun _=>rfl) (Nat.zero_le _) h6
   unfold nJ at KT
   have e1:(ny x y ⟨1,⟨⟨z.t.src,z.t.dst,z.t.proto,z.t.ag,z.t.ah⟩,z.bk,z.gen,z.seen⟩,0,[],0,0,0⟩).fl=uf x y z:=Wi HX.out.2 z
   have e2:(ny x y ⟨1,⟨⟨z.t.src,z.t.dst,z.t.proto,z.t.ag,z.t.ah⟩,z.bk,z.gen,z.seen⟩,0,[],0,0,0⟩).au=[]:=Ju x y z
   obtain⟨q,hq⟩:∃ q,q=ny x y ⟨1,⟨⟨z.t.src,z.t.dst,z.t.proto,z.t.ag,z.t.ah⟩,z.bk,z.gen,z.seen⟩,0,[],0,0,0⟩:=⟨_,rfl⟩
   rw [← hq] at KT e1 e2
   rw [e2] at KT
   have KT1:=Lib.hid KT
   have HE:=Lib.hid e1
   have HZ:=Lib.hid hz
   have HK:Hid (k≤1000000):=Lib.hid (by omega)
   have HM:=Lib.hid (dS hlt')
   have WW:=Lib.hid hw4
   have HFB:=Lib.hid Zc
   clear dh h5 h6 KT hq e1 e2 hz hk hlt hll sc hw4 Zc
   go_upto_region 8 with fail
   rw [← WW.out,← HFB.out]
   clear WW HFB
   refine rG (fun w'=>w'.cell? ⟨tb,3,none⟩=some (.slice va k vc)∧w'.cell? ⟨fb,0,none⟩=some (.int .u32 z.t.src)∧w'.cell? ⟨fb,1,none⟩=some (.int .u32 z.t.dst)∧w'.cell? ⟨fb,2,none⟩=some (.int .i64 z.t.proto)∧w'.cell? ⟨fb,3,none⟩=some (.int .i64 z.t.ag)∧w'.cell? ⟨fb,4,none⟩=some (.int .i64 z.t.ah)∧w'.cell? ⟨fb,5,none⟩=some (.int .i64 z.bk)∧w'.cell? ⟨fb,6,none⟩=some (.int .i64 z.gen)∧w'.cell? ⟨fb,7,none⟩=some (.int .i64 z.seen)) (by kernel_rfl) HYf.out (fun hS=>?_)
   refine bC (i:=0) (v:=?_) rfl (by kernel_rfl) (fun _ _ _ h=>h) (by rfl) ?_ hS ?_
   rotate_left
   ·(intro w hSw;(try dsimp only at hSw);go_simp;try with_reducible rfl)
   try simp only [Act.put,List.setIfInBounds_toArray,List.set_cons_zero,List.set_cons_succ]
   refine bC (i:=1) (v:=?_) rfl (by kernel_rfl) (fun _ _ _ h=>h) (by rfl) ?_ hS ?_
   rotate_left
   ·(intro w hSw;(try dsimp only at hSw);go_simp;try with_reducible rfl)
   try simp only [Act.put,List.setIfInBounds_toArray,List.set_cons_zero,List.set_cons_succ]
   refine bC (i:=2) (v:=?_) rfl (by kernel_rfl) (fun _ _ _ h=>h) (by rfl) ?_ hS ?_
   rotate_left
   ·(intro w hSw;(try dsimp only at hSw);go_simp;try with_reducible rfl)
   try simp only [Act.put,List.setIfInBounds_toArray,List.set_cons_zero,List.set_cons_succ]
   refine bC (i:=3) (v:=?_) rfl (by kernel_rfl) (fun _ _ _ h=>h) (by rfl) ?_ hS ?_
   rotate_left
   ·(intro w hSw;(try dsimp only at hSw);go_simp;try with_reducible rfl)
   try simp only [Act.put,List.setIfInBounds_toArray,List.set_cons_zero,List.set_cons_succ]
   refine bC (i:=4) (v:=?_) rfl (by kernel_rfl) (fun _ _ _ h=>h) (by rfl) ?_ hS ?_
   rotate_left
   ·(intro w hSw;(try dsimp only at hSw);go_simp;try with_reducible rfl)
   try simp only [Act.put,List.setIfInBounds_toArray,List.set_cons_zero,List.set_cons_succ]
   refine bC (i:=5) (v:=?_) rfl (by kernel_rfl) (fun _ _ _ h=>h) (by rfl) ?_ hS ?_
   rotate_left
   ·(intro w hSw;(try dsimp only at hSw);go_simp;try with_reducible rfl)
   try simp only [Act.put,List.setIfInBounds_toArray,List.set_cons_zero,List.set_cons_succ]
   refine kC (i:=6) rfl (by kernel_rfl) (fun K' hK=>?_)
   go_simp
   go_at_call 172
   refine KT1.out.mono ?_
   rintro e w5 ⟨pv,rfl,g5⟩
   obtain⟨Fp,rp⟩:=g5.get 0 rfl
   obtain⟨pa2,pc2,rfl,-,-,-⟩:=ay.shape rp
   have hz5:w5.cell? ⟨tb,3,none⟩=some (.slice va k vc)∧w5.cell? ⟨fb,0,none⟩=some (.int .u32 z.t.src)∧w5.cell? ⟨fb,1,none⟩=some (.int .u32 z.t.dst)∧w5.cell? ⟨fb,2,none⟩=some (.int .i64 z.t.proto)∧w5.cell? ⟨fb,3,none⟩=some (.int .i64 z.t.ag)∧w5.cell? ⟨fb,4,none⟩=some (.int .i64 z.t.ah)∧w5.cell? ⟨fb,5,none⟩=some (.int .i64 z.bk)∧w5.cell? ⟨fb,6,none⟩=some (.int .i64 z.gen)∧w5.cell? ⟨fb,7,none⟩=some (.int .i64 z.seen):=⟨cell_of (g5.block 3 rfl) rfl,cell_of (g5.block 1 rfl) rfl,cell_of (g5.block 1 rfl) rfl,cell_of (g5.block 1 rfl) rfl,cell_of (g5.block 1 rfl) rfl,cell_of (g5.block 1 rfl) rfl,cell_of (g5.block 1 rfl) rfl,cell_of (g5.block 1 rfl) rfl,cell_of (g5.block 1 rfl) rfl⟩
   have h6:=g5.cells (dQ q.fl) 49
   have aaw:Hid ((w5.alloc (.cells (dQ q.fl) 49)).cell? ⟨tb,3,none⟩=some (.slice va k vc)∧(w5.alloc (.cells (dQ q.fl) 49)).cell? ⟨fb,0,none⟩=some (.int .u32 z.t.src)∧(w5.alloc (.cells (dQ q.fl) 49)).cell? ⟨fb,1,none⟩=some (.int .u32 z.t.dst)∧(w5.alloc (.cells (dQ q.fl) 49)).cell? ⟨fb,2,none⟩=some (.int .i64 z.t.proto)∧(w5.alloc (.cells (dQ q.fl) 49)).cell? ⟨fb,3,none⟩=some (.int .i64 z.t.ag)∧(w5.alloc (.cells (dQ q.fl) 49)).cell? ⟨fb,4,none⟩=some (.int .i64 z.t.ah)∧(w5.alloc (.cells (dQ q.fl) 49)).cell? ⟨fb,5,none⟩=some (.int .i64 z.bk)∧(w5.alloc (.cells (dQ q.fl) 49)).cell? ⟨fb,6,none⟩=some (.int .i64 z.gen)∧(w5.alloc (.cells (dQ q.fl) 49)).cell? ⟨fb,7,none⟩=some (.int .i64 z.seen)):=Lib.hid ⟨cell_of (h6.block 4 rfl) rfl,cell_of (h6.block 2 rfl) rfl,cell_of (h6.block 2 rfl) rfl,cell_of (h6.block 2 rfl) rfl,cell_of (h6.block 2 rfl) rfl,cell_of (h6.block 2 rfl) rfl,cell_of (h6.block 2 rfl) rfl,cell_of (h6.block 2 rfl) rfl,cell_of (h6.block 2 rfl) rfl⟩
   have H6:=Lib.hid h6
   clear g5 h6 rp KT1 hS
   refine hK.out _ _ hz5 (fun hS=>?_)
   clear hK K' hz5
   try simp only [Act.put,List.setIfInBounds_toArray,List.set_cons_zero,List.set_cons_succ]
   refine bC (i:=7) (v:=?_) rfl (by kernel_rfl) (fun _ _ _ h=>h) (by rfl) ?_ hS ?_
   rotate_left
   ·(intro w hSw;(try dsimp only at hSw);go_simp;try with_reducible rfl)
   try simp only [Act.put,List.setIfInBounds_toArray,List.set_cons_zero,List.set_cons_succ]
   refine kC (i:=8) rfl (by kernel_rfl) (fun K' hK=>?_)
   go_simp
   refine hK.out _ _ aaw.out (fun hS=>?_)
   clear hK K'
   try simp only [Act.put,List.setIfInBounds_toArray,List.set_cons_zero,List.set_cons_succ]
   refine kC (i:=9) rfl (by kernel_rfl) (fun K' hK=>?_)
   refine lu rfl (by exact H6.out) 3 rfl (.tmp 38) (.tmp 45) 24 (by rfl) Tryz.underlying24 Wj (by decide) (by decide) (by rfl) (by rfl) (by exact Src.of_block (H6.out.block 0 rfl) rfl) (fun u hu=>by simp at hu;rcases hu with rfl | rfl | rfl | rfl | rfl | rfl | rfl | rfl <;> rfl) (by have:=HK.out;omega) ?_
   intro v1 w7 ho1 hg1
   obtain⟨Fo,r1⟩:=ho1.get 3 rfl
   obtain⟨vb,vd,rfl,-,-,-⟩:=ay.shape r1
   have hz7:w7.cell? ⟨tb,3,none⟩=some (.slice va k vc)∧w7.cell? ⟨fb,0,none⟩=some (.int .u32 z.t.src)∧w7.cell? ⟨fb,1,none⟩=some (.int .u32 z.t.dst)∧w7.cell? ⟨fb,2,none⟩=some (.int .i64 z.t.proto)∧w7.cell? ⟨fb,3,none⟩=some (.int .i64 z.t.ag)∧w7.cell? ⟨fb,4,none⟩=some (.int .i64 z.t.ah)∧w7.cell? ⟨fb,5,none⟩=some (.int .i64 z.bk)∧w7.cell? ⟨fb,6,none⟩=some (.int .i64 z.gen)∧w7.cell? ⟨fb,7,none⟩=some (.int .i64 z.seen):=⟨cell_of (ho1.block 4 rfl) rfl,cell_of (ho1.block 2 rfl) rfl,cell_of (ho1.block 2 rfl) rfl,cell_of (ho1.block 2 rfl) rfl,cell_of (ho1.block 2 rfl) rfl,cell_of (ho1.block 2 rfl) rfl,cell_of (ho1.block 2 rfl) rfl,cell_of (ho1.block 2 rfl) rfl,cell_of (ho1.block 2 rfl) rfl⟩
   have d2:w7.cell? ⟨tb,3,none⟩=some (.slice va k vc):=hz7.1
   have f2:w7.frozen? ⟨tb,3,none⟩=false:=aK (ho1.block 4 rfl)
   have HR2:Hid (Gv s x y g tb A a D d (some ⟨gf,fo,none⟩) f pa pc D' d' F0 w0 R (.int .i64 ((k:Int)+1)) (w7.setCell ⟨tb,3,none⟩ (.slice vb (k+1) vd))):=Lib.hid (by
    refine⟨k+1,vb,vd,(List.getElem?_eq_some_iff.1 HZ.out).1,by rw [Int.natCast_add];rfl,?_⟩
    have g6:=(ho1.put (b:=tb) (T:=26) 4 rfl 3 (.slice vb (k+1) vd)).drop.drop.drop
    rw [List.take_add_one,HZ.out,Option.toList_some,List.map_append,List.map_append,List.flatten_append]
    rw [HE.out] at g6
    exact g6)
   clear ho1 r1 hg1 H6 HYf aaw hS
   refine hK.out _ _ hz7 (fun hS=>?_)
   clear hK K' hz7
   try simp only [Act.put,List.setIfInBounds_toArray,List.set_cons_zero,List.set_cons_succ]
   refine bC (i:=10) (v:=?_) rfl (by kernel_rfl) (fun _ _ _ h=>h) (by rfl) ?_ hS ?_
   rotate_left
   ·(intro w hSw;(try dsimp only at hSw);go_simp;try with_reducible rfl)
   try simp only [Act.put,List.setIfInBounds_toArray,List.set_cons_zero,List.set_cons_succ]
   refine mF (i:=11) rfl (by kernel_rfl) (fun K' hK=>?_)
   go_simp
   refine hK.out _ _ ?_
   clear hK K' hS
   go_wp2_with fail
   go_roundw
   case rel=>(try rw [hw2]);exact HR2.out
   case measure=>(try rw [hw2]);exact HM.out
  ·have hkl:k=s.bS.length:=by omega
   subst hkl
   rw [List.take_length] at dh
   have hge:decide ((s.bS.length:Int) < (s.bS.length:Int))=false:=decide_eq_false (by omega)
   have q1:=dh.block 1 rfl
   have ht:=dX (dh.block 4 rfl)
   have G:=Lib.hid (dh.eX 4 rfl (xs:=[.int .i64 s.gen,.slice pa s.au.length pc,.slice D' s.bL.length d',.slice va s.bS.length vc]) (b:=g+1) (C:=#[.int .i64 0,.slice none 0 0,.slice none 0 0,.slice none 0 0]) (T:=26) rfl)
   have Q1:=Lib.hid q1
   have HLE:Hid ((eD x y s).au.length=s.au.length∧(eD x y s).bS.length=s.bS.length):=Lib.hid ⟨List.length_map _,List.length_map _⟩
   clear dh q1 hlt hk HT HV
   go_wp2_with (first | (refine wpList_load_row rfl 26 (.tmp 8) rfl tb rfl 26 _ (0,0) _ Q1.out Tryz.underlying26 rfl (by kernel_rfl) ?_) | (refine wpList_store_mid (op:=⟨none,Op.store 26 (.tmp 6) (.tmp 49),_,_,_,_⟩) (by rfl) 26 (.tmp 6) (.tmp 49) rfl (g+1) 0 #[.int .i64 s.gen,.slice pa s.au.length pc,.slice D' s.bL.length d',.slice va s.bS.length vc] (by rfl) (by rfl) ht (by kernel_rfl) (oC _ _ _ _ _ _ _ _ _ _) ?_))
   refine bodyPost_ret (aP Tryz.results90 _ _ (g+1) 26 _ (0,0) _ rfl (G.out.block 4 rfl) Tryz.underlying26 rfl (by kernel_rfl)) rfl ⟨pa,pc,D',d',va,vc,?_,?_⟩
   ·show Ending.returned (.tuple #[.agg #[.int .i64 s.gen,.slice pa s.au.length pc,.slice D' s.bL.length d',.slice va s.bS.length vc],.int .i64 0])=.returned (.tuple #[.agg #[.int .i64 s.gen,.slice pa (eD x y s).au.length pc,.slice D' s.bL.length d',.slice va (eD x y s).bS.length vc],.int .i64 0])
    rw [HLE.out.1,HLE.out.2]
   ·have g9:=G.out.aL (R1:=[_,_,_,_,_,_]) [2,3,0] (by decide) rfl
    unfold FM
    rw [HLE.out.1,HLE.out.2]
    exact g9
end
theorem Md {d:ae} {m m':cZ} {Fr zt:List cz} {s s':Nat} (h:eZ d m Fr s) (h':jf d.now d.files m'.aa m'.ak zt s') :
  (aG m' d).2.1=true→(aG m' d).2.2≠0→∀ N,nI (aG m' d).1 N→agree (Mine m'.aa) N (aG m' d).1.now∨Holds N (aG m' d).1.files m Fr s:=by
 unfold aG
 by_cases hm:fJ m'=false
 ·rw [if_pos hm];exact fun c=>absurd c (by simp)
 have hm':fJ m'=true:=by simpa using hm
 rw [if_neg hm]
 have nf:¬ (fun n=>n≠az) az:=fun h=>h rfl
 have hk:∀ (aa:List Nat) n,Mine aa n→n≠az:=fun aa n hn e=>rE (e ▸ hn)
 have o1:=jK (K:=fun n=>n≠az) h.ok nf
 have k1:=jo h.ok az
 have n1:=jh (n:=az) h.ok
 have hfresh:eY m' d=bM (bM (bM (bH az d) (fun d=>aI d az (aj (dP m')))) (fun d=>aW d az)) (fun d=>bZ d az bG):=rfl
 generalize bH az d=r1 at *
 by_cases e1:r1.2=0
 case neg=>
  rw [aZ e1,aZ e1,aZ e1] at hfresh
  rw [hfresh,if_pos e1]
  exact fun c=>absurd c (by simp)
 rw [aT e1] at hfresh
 have o2:=o1.trans (dG.append (K:=fun n=>n≠az) k1 nf (aj (dP m')))
 have k2:=gV k1 az (aj (dP m'))
 have n2:=jL k1 (b:=aj (dP m')) (n1 e1)
 generalize aI r1.1 az (aj (dP m'))=r2 at *
 by_cases e2:r2.2=0
 case neg=>
  rw [aZ e2,aZ e2] at hfresh
  rw [hfresh,if_pos e2]
  exact fun c=>absurd c (by simp)
 rw [aT e2] at hfresh
 have o3:=o2.trans (dG.sync (K:=fun n=>n≠az) k2 nf)
 have k3:=gG k2 az
 have n3:=wH k2 (n2 e2)
 generalize aW r2.1 az=r3 at *
 by_cases e3:r3.2=0
 case neg=>
  rw [aZ e3] at hfresh
  rw [hfresh,if_pos e3]
  exact fun c=>absurd c (by simp)
 rw [aT e3] at hfresh
 have f3:=h.other (hk _) o3 k3
 obtain⟨x,x1,x2,x3⟩:=n3 e3
 rcases jw r3.1 az bG with ⟨e,h4,he⟩|⟨_,_,_,⟨h4,_⟩|⟨_,h4⟩⟩
 ·rw [h4] at hfresh
  rw [hfresh,if_pos (by simp only;omega)]
  exact fun c=>absurd c (by simp)
 ·exact absurd h4.symm je
 ·have k4:=nY k3 az bG
  rw [h4] at hfresh k4
  rw [hfresh,if_neg (by simp)]
  simp only at k4 ⊢
  rcases gF (bu (aD r3.1) (.ren az bG)) with h6 | ⟨_,h6⟩
  ·rw [h6]
   intro _ _ N hN
   rcases pE (bV k3) hN with h7 | h7
   ·exact Or.inr (f3.now.congr (f3.st N h7) (fun _ _ _ _=>rfl))
   ·subst h7;exact Or.inl (fun _ _=>rfl)
  ·rw [h6]
   exact fun _ c=>absurd rfl c
theorem TH {d:ae} {l:bI} {Fr:List cz} {s:Nat} (h:eZ d l.m Fr s) (hl:l.loose=false) (ak:Nat) (R:List cz) (hR:∀ f∈R,ji f∧f.ak=ak) (p:List UInt8) :
  (fD ak (R.map aj) (d,l)).2≠0→(∃ j,s≤j∧j≤Fr.length∧lM (gz (fD ak (R.map aj) (d,l)).1.1 p) l.m (Fr.take j))∨∃ m',m'.ak=ak∧lM (gz (fD ak (R.map aj) (d,l)).1.1 p) m' R:=by
 have hset:aY (d,l)=((d,l),0):=by unfold aY;simp [hl]
 unfold fD
 rw [hset]
 simp only
 rw [if_neg (by simp)]
 have hv:=h.valid
 have hlt:∀ x∈l.m.aa,x < l.m.next:=fun x hx=>(dY h.now.1 hx).2.1
 have h5:=Ba (l:=l) h.ok h.now.1 R hR
 generalize fK l (R.map aj) d=r2 at *
 have hdrop:∀ (d2:ae),Beside d l.m r2.1→eZ d2 l.m Fr s→eZ (dropD r2.1.2.1 d2) l.m Fr s:=fun d2 hb hf=>by
  obtain⟨o1,k1⟩:=vE (K:=Mine l.m.aa) r2.1.2.1 d2 hf.ok (fun x hx=>lL hv (fun hm=>by have:=hlt _ hm;have:=hb.mem hx;omega))
  exact hf.other (fun _ hn=>hn) o1 k1
 have hcr:∀ d2,eZ d2 l.m Fr s→(∃ j,s≤j∧j≤Fr.length∧lM (gz d2 p) l.m (Fr.take j)):=fun d2 hf=>
  (hf.now.congr (hf.st _ (jU d2 p)) (fun _ _ _ _=>rfl)).qj hf.ok p
 rcases h5 with ⟨q1,q2,q3⟩|⟨q1,q2⟩
 case inr=>
  rw [if_pos q1]
  exact fun _=>Or.inl (hcr _ (hdrop _ q2 (h.other (fun _ hn=>hn) q2.other q2.ok)))
 rw [if_neg (by simp [q1])]
 have f3:=h.other (fun _ hn=>hn) q2.beside.other q2.beside.ok
 have hS:jf r2.1.1.now r2.1.1.files (gX ak l r2.1.2.1).aa (gX ak l r2.1.2.1).ak R R.length:=by
  rcases q2.held with ⟨e,_⟩|⟨C,L,k,g1,rfl,g3,g4⟩
  ·exact absurd e q3
  ·exact⟨C,L,k,g1,rfl,by rw [List.length_append];have:=g4 rfl;omega⟩
 have hc:=sS f3 hS
 have hco:=Md f3 hS
 unfold dD
 simp only
 have hbb:=q2.beside
 generalize hm':gX ak l r2.1.2.1=m' at *
 have iK:m'.ak=ak:=by rw [← hm'];rfl
 generalize aG m' r2.1.1=r3 at *
 rcases hc with ⟨b1,b2,b3⟩|⟨b1,b2,b3,b4⟩|⟨b1,b2,b3⟩
 ·rw [if_neg b2,if_neg (by rw [b1];simp)]
  exact fun _=>Or.inl (hcr _ (hdrop _ hbb b3))
 ·rw [if_pos b2]
  exact fun c=>absurd rfl c
 ·rw [if_neg b2,if_pos b1]
  intro _
  rcases hco b1 b2 _ (jU r3.1 p) with h7 | h7
  ·obtain⟨j,j1,j2,j3⟩:=(b3.now.congr h7 (fun _ _ _ _=>rfl)).qj b3.ok p
   rw [List.take_of_length_le j1] at j3
   exact Or.inr ⟨m',iK,j3⟩
  ·exact Or.inl (h7.qj b3.ok p)
theorem Wm {σ:Type} (a:σ) (e:ae×Int) (l:bI):(if e.2≠0 then (a,e.1,(none:Option bI),e.2) else (a,e.1,some l,0)).2.1=e.1:=by split <;> rfl
theorem Po {σ:Type} (each:σ→cz→σ×Int) (size:Int) (d:ae) (s:σ):(df each size d s).2.1.ops≤d.ops+3:=by
 unfold df
 split
 ·show d.ops≤_;omega
 ·split
  ·show d.ops≤_;omega
  ·simp only
   split
   ·show d.ops≤_;omega
   ·have h1:∀ (l:bI) (n:Nat),(bM (bM (if n=bytesD d (bz l) then (d,0) else kJ d (bz l) n) (fun d=>aW d (bz l))) bF).1.ops≤d.ops+3:=fun l n=>by
     have h2:(if n=bytesD d (bz l) then (d,(0:Int)) else kJ d (bz l) n).1.ops≤d.ops+1:=yz l n d
     have h3:=kD (μ:=fun t:ae=>t.ops) (b:=1) h2 (fun t=>fP t (bz l))
     have h4:=kD (μ:=fun t:ae=>t.ops) (b:=1) h3 (fun t=>tJ t)
     omega
    rw [Wm]
    exact h1 _ _
theorem Jv {d:ae} {m:cZ} {Fr:List cz} (h:lM d m Fr) (hf:d.fail=0) {st:eT} (hr:rdAll Fr aH=(st,0)) {ak:Int} (size:Int) (hv:(m.ak:Int)≤ak∧ak≤3):(mg ak size d).1.ops≤d.ops+203:=by
 obtain⟨d',h1,h2,h3⟩:=Mt eP h hf size aH
 have ho:=Po eP size d aH
 rw [vF _ _ (fun f hf=>(h.ak f hf).2),hr,if_neg (by simp)] at h1
 rw [h1] at ho
 unfold mg
 rw [Mx h,if_neg (by simp),if_neg (by simp only;omega),h1]
 have h4:=xU ⟨sized size,m,false⟩ (iA d') d'
 have h5:(iA d').length≤200:=by unfold iA;rw [List.length_map];exact h2.ok.now.few
 simp only at ho ⊢
 omega
theorem TI {v b:Int} {s:SD} {Fr:List cz} (hi:gH s Fr Fr.length Fr Fr.length) (hl:s.2.l.loose=false) (iK:(s.2.l.m.ak:Int)=v) (hb:v≤b∧b≤3) (size:Int) (p:List UInt8) :
  ∃ d' m st zt,mg 3 size (gz (qK b s).1.1 p)=(d',some ⟨⟨sized size,m,false⟩,st,st⟩,0)∧gH (d',⟨⟨sized size,m,false⟩,st,st⟩) zt zt.length zt zt.length∧d'.ops≤(qK b s).1.1.ops+203 ∧
   (((m.ak:Int)=v∧st=s.2.st)∨((m.ak:Int)=b∧st=if b=v then s.2.st else eD v b s.2.st))∧((qK b s).2=0→(m.ak:Int)=b∧st=if b=v then s.2.st else eD v b s.2.st):=by
 have hvk:=hi.ak
 have hv3:=hvk
 unfold di at hv3
 simp only [decide_eq_true_eq] at hv3
 have fin:∀ {d2:ae} {m:cZ} {Zd:List cz} {st:eT},lM (gz d2 p) m Zd→rdAll Zd aH=(st,0)→gm st→(m.ak:Int)≤3→∃ d',mg 3 size (gz d2 p)=(d',some ⟨⟨sized size,m,false⟩,st,st⟩,0)∧gH (d',⟨⟨sized size,m,false⟩,st,st⟩) Zd Zd.length Zd Zd.length∧d'.ops≤d2.ops+203:=fun {d2 m Zd st} h1 h2 h3 h4=>by
  obtain⟨d',e,g⟩:=EJ h1 rfl h2 h3 size (ak:=3) ⟨h4,by omega⟩
  have h5:=Jv h1 rfl h2 size (ak:=3) ⟨h4,by omega⟩
  rw [e] at h5
  exact⟨d',e,g,h5⟩
 by_cases hbv:b=v
 ·rw [qI (by omega) hb.2,if_pos hbv]
  obtain⟨m0,j,j1,j2,j3,j4⟩:=hi.qj p
  rw [List.take_of_length_le j1] at j4
  obtain⟨d',e1,e2,e3⟩:=fin j4 hi.st hi.ok (by rw [j3];omega)
  exact⟨d',m0,s.2.st,Fr,e1,e2,e3,Or.inl ⟨by rw [j3];exact iK,rfl⟩,fun _=>⟨by rw [j3];omega,rfl⟩⟩
 ·rw [if_neg hbv]
  have hok:=hi.ok.img v b
  have hbk:di b=true:=by unfold di;simp;omega
  have hrd:rdAll (dR b (eD v b s.2.st)) aH=(eD v b s.2.st,0):=by
   have:=uY hok hbk
   rwa [(zW (by omega) (by omega) s.2.st).eq] at this
  rw [vU (by omega) hb.2,iK]
  obtain⟨a1,a2⟩:=hi.swap (v:=b) hok ⟨by omega,hb.2⟩
  by_cases h0:(fq b (eD v b s.2.st) s).2=0
  ·rcases a2 with ⟨_,g1,g2,g3,g4,g5⟩|⟨g,_⟩
   case inr=>exact absurd h0 g
   obtain⟨m0,j,j1,j2,j3,j4⟩:=g4.qj p
   rw [List.take_of_length_le j1] at j4
   obtain⟨d',e1,e2,e3⟩:=fin j4 hrd hok (by rw [j3];omega)
   have hm:(m0.ak:Int)=b:=by rw [j3];exact g2
   exact⟨d',m0,_,_,e1,e2,e3,Or.inr ⟨hm,rfl⟩,fun _=>⟨hm,rfl⟩⟩
  ·have e1:(fq b (eD v b s.2.st) s).2=(fZ b (eD v b s.2.st) s).2∧(fq b (eD v b s.2.st) s).1.1=(fZ b (eD v b s.2.st) s).1.1:=by
    unfold fq
    rw [if_neg (by omega)]
    exact⟨rfl,rfl⟩
   obtain⟨e1,e2⟩:=e1
   have c:=TH (hi.EK hl) hl b.toNat (dR b (eD v b s.2.st)) (rows_ok hok hbk) p
   rw [show fD b.toNat ((dR b (eD v b s.2.st)).map aj) (s.1,s.2.l)=fZ b (eD v b s.2.st) s from rfl,← e1,← e2] at c
   rcases c h0 with ⟨j,j1,j2,j3⟩|⟨m',j1,j2⟩
   ·rw [List.take_of_length_le j1] at j3
    obtain⟨d',f1,f2,f3⟩:=fin j3 hi.st hi.ok (by omega)
    exact⟨d',_,_,_,f1,f2,f3,Or.inl ⟨iK,rfl⟩,fun h=>absurd h h0⟩
   ·obtain⟨d',f1,f2,f3⟩:=fin j2 hrd hok (by rw [j1];omega)
    exact⟨d',m',_,_,f1,f2,f3,Or.inr ⟨by rw [j1];omega,rfl⟩,fun h=>absurd h h0⟩
theorem TJ {v b:Int} {t:SD} {Fr:List cz} {s0:eT} (hi:gH t Fr Fr.length Fr Fr.length) (hv:1≤v) (hb:v≤b∧b≤3)
  (h:((t.2.l.m.ak:Int)=v∧t.2.st=s0)∨((t.2.l.m.ak:Int)=b∧t.2.st=if b=v then s0 else eD v b s0)) (h0:(qK b t).2=0):((qK b t).1.2.l.m.ak:Int)=b∧(qK b t).1.2.st=if b=v then s0 else eD v b s0:=by
 rcases h with ⟨h1,h2⟩|⟨h1,h2⟩
 ·by_cases hbv:b=v
  ·rw [qI (by omega) hb.2,if_pos hbv];exact⟨by simp only;omega,h2⟩
  ·rw [if_neg hbv]
   rw [vU (by omega) hb.2,h1] at h0 ⊢
   rcases (hi.swap (v:=b) (hi.ok.img v b) ⟨by omega,hb.2⟩).2 with ⟨_,g1,g2,g3,g4,g5⟩|⟨g,_⟩
   ·refine⟨g2,?_⟩
    rw [g5,(zW hv (by omega) t.2.st).eq,h2]
   ·exact absurd h0 g
 ·rw [qI h1.symm hb.2];exact⟨h1,h2⟩
def zl (v b:Int) (s:eT):eT:=if b=v then s else eD v b s
theorem Wn {b:Int} {s:SD} (hl:ib s.2.l) (hok:gm s.2.st) (hv:di (s.2.l.m.ak:Int)=true):(qK b s).1.1.ops≤s.1.ops+2000:=by
 unfold qK
 split
 ·show s.1.ops≤_;omega
 ·split
  ·show s.1.ops≤_;omega
  ·have hb:di b=true:=by unfold di at hv ⊢;simp at hv ⊢;omega
   exact Mc hl (hok.img _ _) hb
theorem Gt.ak {s:SD} {n:Nat} (h:Gt s n):di (s.2.l.m.ak:Int)=true:=by
 obtain⟨Fr,k,g⟩:=h.inv
 have:=(bQ.1 g.now.1).1
 unfold di;simp;omega
theorem Gt.Nn {b:Int} {s:SD} {n:Nat} (h:Gt s n):(qK b s).1.1.ops≤n+2000:=by
 have:=Wn (b:=b) h.lg h.ok h.ak
 have:=h.ops
 omega
theorem Wo {v b:Int} {s:SD} {size:Int} (h:kP 60 (sized size) v s) :
  Gt s 2200∧(s.2.l.m.ak:Int)=v∧(1≤v∧v≤3)∧((b < v∨3 < b)→qK b s=(s,10))∧(v≤b∧b≤3→∀ s1,s1=(qK b s).1→s1.1.ops≤4200∧ib s1.2.l ∧
   (((qK b s).2=4∧(s1.2.l.m.ak:Int)=v) ∨
     ((qK b s).2=0∧Gt s1 4200∧(s1.2.l.m.ak:Int)=b∧s1.2.st=zl v b s.2.st∧qK b s1=(s1,0)∧∃ d' l',mg b size (if v < b then gz s1.1 [] else s1.1)=(d',some ⟨l',zl v b s.2.st,zl v b s.2.st⟩,0)∧(l'.m.ak:Int)=b))):=by
 have hz:=tQ size
 have c:=h.cp
 have iK:=c.ak
 have r0:Gt s 2200:=c.YZ hz (by have:=h.su.ops;omega)
 have hvk:=r0.ak
 unfold di at hvk
 simp only [decide_eq_true_eq] at hvk
 refine⟨r0,iK,by omega,fun hb=>Gu (by omega),fun hb s1 e1=>?_⟩
 have o1:s1.1.ops≤4200:=by rw [e1];exact r0.Nn
 by_cases hbv:b=v
 ·have e2:qK b s=(s,0):=qI (by omega) hb.2
  rw [e2] at e1 ⊢
  simp only at e1
  subst e1
  obtain⟨Fr,k,hi⟩:=c.inv
  have hn:Holds s1.1.now s1.1.files s1.2.l.m Fr k:=by
   rcases hi.log with ⟨_,g⟩|⟨_,g⟩ <;> exact g.now
  obtain⟨d',e,_⟩:=EJ (hn.on hi.log.ok) c.rm.fail hi.st hi.ok size (ak:=b) ⟨by omega,hb.2⟩
  refine⟨o1,r0.lg,Or.inr ⟨rfl,c.YZ hz o1,by omega,(if_pos hbv).symm,e2,d',⟨sized size,s1.2.l.m,false⟩,?_,by show (s1.2.l.m.ak:Int)=b;omega⟩⟩
  rw [if_neg (by omega),zl,if_pos hbv]
  exact e
 ·have c':Ci (sized size) v ((139722:Nat)+60278) (73+65) 62 s:=⟨c.inv,c.loose,c.rm.le (by omega) (by omega),c.only,c.size,c.ak,c.fmt,c.next⟩
  have hsz:(qK b s).1.2.l.size=s.2.l.size:=by
   obtain⟨Fr,k,hi⟩:=c.inv
   rw [vU (by omega) hb.2]
   exact (hi.swap (hi.ok.img _ _) ⟨by omega,hb.2⟩).1
  have hlg:ib s1.2.l:=by
   obtain⟨Fr,k,hi⟩:=c.inv
   have e0:=vU (b:=b) (s:=s) (by omega) hb.2
   rw [← e1] at hsz
   rw [e0] at e1
   rcases (hi.swap (hi.ok.img s.2.l.m.ak b) ⟨by omega,hb.2⟩).2 with ⟨_,_,_,_,g,_⟩|⟨_,_,⟨_,_,g⟩|⟨_,_,g⟩⟩ <;> (rw [← e1] at g;exact g.LQ (by rw [hsz];exact c.size) hz)
  refine⟨o1,hlg,?_⟩
  rcases c'.up (by omega) ⟨by omega,hb.2⟩ with ⟨a1,a2,a3,a4⟩|⟨a1,a2⟩
  case inr=>rw [← e1] at a2;exact Or.inl ⟨a1,a2⟩
  rw [← e1] at a2 a3 a4
  have hw:zl v b s.2.st=eD v b s.2.st:=if_neg hbv
  refine Or.inr ⟨a1,a2.YZ hz o1,a2.ak,by rw [hw];exact a3,qI a2.ak.symm hb.2,?_⟩
  rw [if_pos (by omega),hw]
  obtain⟨Fr,k,hi⟩:=a2.inv
  obtain⟨mD,k0,hi0⟩:=c.inv
  have e0:=vU (b:=b) (s:=s) (by omega) hb.2
  rw [iK] at e0
  have g4:=(hi0.swap (hi0.ok.img v b) ⟨by omega,hb.2⟩).2
  rw [e0] at a1 e1
  rcases g4 with ⟨_,g1,g2,g3,g4,g5⟩|⟨g,_⟩
  case inr=>exact absurd a1 g
  rw [← e1] at g2 g4
  obtain⟨m0,j,j1,j2,j3,j4⟩:=g4.qj []
  rw [List.take_of_length_le j1] at j4
  have hbk:di b=true:=by unfold di;simp;omega
  have hrd:=uY (hi0.ok.img v b) hbk
  rw [(zW (by omega) (by omega) s.2.st).eq] at hrd
  obtain⟨d',e,_⟩:=EJ j4 rfl hrd (hi0.ok.img v b) size (ak:=b) ⟨by rw [j3];omega,hb.2⟩
  exact⟨d',_,e,by show (m0.ak:Int)=b;rw [j3];exact g2⟩
theorem TU {s:SD} {size:Int} (h:kP 60 (sized size) 1 s) :
  Gt s 2200∧∀ b,(b=2∨b=3)→∀ s1,s1=(qK b s).1→(qK b s).2=0→Gt s1 4200∧s1.2.st=eD 1 b s.2.st∧(b=2→∀ s2,s2=(qK 3 s1).1→(qK 3 s1).2=0→Gt s2 6200∧s2.2.st=eD 1 3 s.2.st):=by
 have hz:=tQ size
 have c:=h.cp
 have r0:Gt s 2200:=c.YZ hz (by have:=h.su.ops;omega)
 refine⟨r0,fun b hb s1 e1 h1=>?_⟩
 have c':Ci (sized size) 1 ((79444:Nat)+60278+60278) (8+65+65) 62 s:=⟨c.inv,c.loose,c.rm.le (by omega) (by omega),c.only,c.size,c.ak,c.fmt,c.next⟩
 have o1:s1.1.ops≤4200:=by rw [e1];exact r0.Nn
 rcases c'.up (b:=b) (by omega) (by omega) with ⟨a1,a2,a3,a4⟩|⟨a1,_⟩
 case inr=>rw [h1] at a1;cases a1
 rw [← e1] at a2 a3
 have r1:=a2.YZ hz o1
 refine⟨r1,a3,fun e s2 e2 h2=>?_⟩
 subst e
 have o2:s2.1.ops≤6200:=by rw [e2];exact r1.Nn
 rcases a2.up (b:=3) (by omega) (by omega) with ⟨b1,b2,b3,b4⟩|⟨b1,_⟩
 case inr=>rw [h2] at b1;cases b1
 rw [← e2] at b2 b3
 exact⟨b2.YZ hz o2,by rw [b3,a3,Wh]⟩
theorem TK {v b:Int} {s:SD} {size:Int} (h:kP 60 (sized size) v s) (hb:v≤b∧b≤3) (n:Int) (p:List UInt8) :
  Gt s 2200∧(jM s).2=0∧∀ s1,s1=(jM s).1→s1.2.st=s.2.st∧s1.1.ops≤2202∧Gt (nA s1.1 n,s1.2) 2202∧∀ s2,s2=(qK b (nA s1.1 n,s1.2)).1→s2.1.ops≤4202 ∧
   ∃ d' l st,mg 3 size (gz s2.1 p)=(d',some ⟨l,st,st⟩,0)∧Gt (d',⟨l,st,st⟩) 4405 ∧
   (((l.m.ak:Int)=v∧st=s.2.st)∨((l.m.ak:Int)=b∧st=zl v b s.2.st))∧((qK b (nA s1.1 n,s1.2)).2=0→(l.m.ak:Int)=b∧st=zl v b s.2.st) ∧
   ((qK b (d',⟨l,st,st⟩)).2=0→((qK b (d',⟨l,st,st⟩)).1.2.l.m.ak:Int)=b∧(qK b (d',⟨l,st,st⟩)).1.2.st=zl v b s.2.st):=by
 have hz:=tQ size
 have c:=h.cp
 have r0:Gt s 2200:=c.YZ hz (by have:=h.su.ops;omega)
 have hvk:=r0.ak
 have iK:=c.ak
 unfold di at hvk
 simp only [decide_eq_true_eq] at hvk
 obtain⟨Fr,k,hi⟩:=c.inv
 have h0:(jM s).2=0:=Pj (hi.EK c.loose) c.loose c.rm.fail
 refine⟨r0,h0,fun s1 e1=>?_⟩
 obtain⟨b1,b2,b3,b4⟩:=hi.sync
 have os:=OT s
 rcases b4 with ⟨_,_,c3,c4⟩|⟨c1,_⟩
 case inr=>exact absurd h0 c1
 rw [← e1] at b1 b2 b3 c3 c4 os
 have hv1:(s1.2.l.m.ak:Int)=v:=by rw [b2];exact iK
 have g:=c4.fail n
 have r1:Gt (nA s1.1 n,s1.2) 2202:=⟨c4.LQ (by rw [b1];exact c.size) hz,⟨Fr,_,g.log⟩,by have:=r0.ops;show s1.1.ops≤2202;omega,c4.ok⟩
 refine⟨b3,by have:=r0.ops;omega,r1,fun s2 e2=>?_⟩
 have o2:s2.1.ops≤4202:=by rw [e2];exact r1.Nn
 obtain⟨d',m,st,zt,f1,f2,f3,f4,f5⟩:=TI (v:=v) (b:=b) g c3 hv1 hb size p
 simp only [b3] at f4 f5
 rw [← e2] at f1 f3
 refine⟨o2,d',_,st,f1,⟨f2.LQ rfl hz,⟨_,_,f2.log⟩,by show d'.ops≤4405;omega,f2.ok⟩,f4,f5,fun hh=>?_⟩
 exact TJ f2 (by omega) hb f4 hh
end Go.Proofs.YtanhdliaaccacaaGreat
