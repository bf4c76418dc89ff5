/- Parts of the proofs that a compaction keeps what lives, and done again is as once. -/
import Derived.Test.YtogclkhpbjfadaaGreatCK13
import Derived.Test.YtogclkhpbjfadaaGreatCK7
import Derived.Laws.ResultCell
import Derived.Deep.DeepCutAuto
namespace Go.Proofs.YtogclkhpbjfadaaGreat
open Go.RowKit
set_option linter.unusedVariables false
set_option maxHeartbeats 64000000
set_option maxRecDepth 100000
section
variable {F0:List Nat} {w0 w:World} {R:List az} {bw b0:Nat} {C0:Array Value} {l:List UInt8}
abbrev pW (bw:Nat):Value:=.pointer (some ⟨bw,0,none⟩)
def Ic (bw b0:Nat) (C0:Array Value) (l:List UInt8) (F0:List Nat) (w0:World) (R:List az) (e:Ending) (w':World):Prop:=e=.returned (.tuple #[])∧In F0 w0 w' (Cells b0 C0 69::WA bw l::R)
theorem ZA (hl:l.length≤100000) (w':World) (more:List UInt8) (n:Int) (h:In F0 w0 w' (Cells b0 C0 69::WA bw (l++more)::R)) (hm:more.length≤1000):Calls Tryz.prog 154 #[pW bw,.int .i64 n] w' (Ic bw b0 C0 (l++(more++be (u64 n) 1)) F0 w0 R):=by
 have:=LJ h 1 rfl (by rw [List.length_append];omega) n
 rw [← List.append_assoc];exact this
theorem Du (hl:l.length≤100000) (w':World) (more:List UInt8) (n:Int) (h:In F0 w0 w' (Cells b0 C0 69::WA bw (l++more)::R)) (hm:more.length≤1000):Calls Tryz.prog 155 #[pW bw,.int .i64 n] w' (Ic bw b0 C0 (l++(more++be (u64 n) 2)) F0 w0 R):=by
 have:=Ad h 1 rfl (by rw [List.length_append];omega) n
 rw [← List.append_assoc];exact this
theorem Mh (hl:l.length≤100000) (w':World) (more:List UInt8) (n:Int) (h0:0≤n) (h1:n < 4294967296) (h:In F0 w0 w' (Cells b0 C0 69::WA bw (l++more)::R)) (hm:more.length≤1000):Calls Tryz.prog 156 #[pW bw,.int .u32 n] w' (Ic bw b0 C0 (l++(more++be (u64 n) 4)) F0 w0 R):=by
 have:=uJ h 1 rfl (by rw [List.length_append];omega) h0 h1
 rw [← List.append_assoc];exact this
theorem Wo (hl:l.length≤100000) (w':World) (more:List UInt8) (n:Int) (h:In F0 w0 w' (Cells b0 C0 69::WA bw (l++more)::R)) (hm:more.length≤1000):Calls Tryz.prog 234 #[pW bw,.int .i64 n] w' (Ic bw b0 C0 (l++(more++be (u64 n) 8)) F0 w0 R):=by
 have:=XC h 1 rfl (by rw [List.length_append];omega) n
 rw [← List.append_assoc];exact this
theorem u32_in {n:Int} (h0:0≤n) (h1:n≤1000000):IntKind.u32.wrap n=n:=by
 have e:IntKind.u32.wrap n=n % 4294967296:=rfl
 rw [e];omega
def QI (bw:Nat) (l:List UInt8) (F0:List Nat) (w0:World) (R:List az) (e:Ending) (w':World):Prop:=e=.returned (.tuple #[])∧In F0 w0 w' (WA bw l::R)
theorem oQ {l' l2:List UInt8} (e:l'=l2) (h:In F0 w0 w (Cells b0 C0 69::WA bw (l++l')::R)):QI bw (l++l2) F0 w0 R (.returned (.tuple #[])) w:=by subst e;exact⟨rfl,h.drop⟩
def QJ (bw b0:Nat) (C0:Array Value) (l hd:List UInt8) (v:Int) (ax:List Bk) (F0:List Nat) (w0:World) (R:List az) (i:Value) (wr:World):Prop:=
 ∃ k:Nat,k≤ax.length∧i=.int .i64 k∧In F0 w0 wr (Cells b0 C0 69::WA bw (l++(hd++mP v (ax.take k)))::R)
theorem Uv {hd more:List UInt8} {v:Int} {ax:List Bk} {k nb:Nat} {b:Bk} {C:Array Value} {ty:Nat} (hb:ax[k]?=some b) (hm:more=LU v b) (h:In F0 w0 w (Cells b0 C0 69::WA bw (l++(hd++mP v (ax.take k)++more))::Cells nb C ty::R)):QJ bw b0 C0 l hd v ax F0 w0 R (.int .i64 ((k:Int)+1)) w:=by
 subst hm
 refine⟨k+1,(List.getElem?_eq_some_iff.1 hb).1,by rw [Int.natCast_add];rfl,?_⟩
 have e:mP v (ax.take (k+1))=mP v (ax.take k)++LU v b:=by rw [List.take_add_one,hb];exact Nc v _ b
 rw [e,← List.append_assoc hd]
 exact h.aI (R1:=[_,_,_]) [0,1] (by decide) rfl
theorem ND {r:Rec} {A:Option Addr} {c:Nat} (v:Int) (hs:gZ F0 w0 R A r.ax) (wr:mQ r) (hm:bT r=true) (hl:l.length≤100000) (h:In F0 w0 w (WA bw l::R)):Calls Tryz.prog 192 #[pW bw,uy r A c,.int .i64 v] w (QI bw (l++dA r v) F0 w0 R):=by
 have QK:∀ (fn:Fn) (first cap:Array Value) (w:World),(Instr.makeFunc fn first cap).run Tryz.prog w=.ok (.func fn first cap) w:=fun _ _ _ _=>rfl
 have HL:=Lib.hid hl
 rw [dS] at hm
 have h0:In F0 w0 w (WA bw (l++[])::R):=by rw [List.append_nil];exact h
 obtain⟨kind,⟨⟨src,dst,proto,ag,ah⟩,bI,aG,au⟩,gen,ax,bk,till,count⟩:=r
 obtain⟨wt,wa⟩:=wr
 simp only at hm wt wa hs
 have H1:=Lib.hid (h0.cells (aF ⟨kind,⟨⟨src,dst,proto,ag,ah⟩,bI,aG,au⟩,gen,ax,bk,till,count⟩ (.slice A ax.length c)).toArray 69)
 have Wp:=Lib.hid (fun (k:Int)=>Pq (h0.cells (aF ⟨k,⟨⟨src,dst,proto,ag,ah⟩,bI,aG,au⟩,gen,ax,bk,till,count⟩ (.slice A ax.length c)).toArray 69) 1 rfl (by rw [List.append_nil];omega) wt)
 clear h h0 hl
 rcases hm with ⟨h1,h2⟩|⟨h1,h2⟩|⟨h1,h2,h3,h4⟩|⟨h1,h2,h3⟩|⟨h1,h2⟩|⟨h1,h2⟩
 ·-- a flow
  subst h1
  have hg0:=h2.g0
  have hg1:=h2.g1
  simp only at hg0 hg1
  have hw:=u32_in hg0 hg1
  have HY:=Lib.hid (fun w' l' (h':In F0 w0 w' (Cells w.heap.size (aF ⟨1,⟨⟨src,dst,proto,ag,ah⟩,bI,aG,au⟩,gen,ax,bk,till,count⟩ (.slice A ax.length c)).toArray 69::WA bw l'::R))=>(show w'.cell? ⟨w.heap.size,6,none⟩=some (.int .i64 bI)∧w'.cell? ⟨w.heap.size,7,none⟩=some (.int .i64 aG)∧w'.cell? ⟨w.heap.size,8,none⟩=some (.int .i64 au) from ⟨cell_of (h'.block 0 rfl) rfl,cell_of (h'.block 0 rfl) rfl,cell_of (h'.block 0 rfl) rfl⟩))
  have K1:=Lib.hid (Wp.out 1)
  have K3:Hid (∀ w' more,In F0 w0 w' (Cells w.heap.size (aF ⟨1,⟨⟨src,dst,proto,ag,ah⟩,bI,aG,au⟩,gen,ax,bk,till,count⟩ (.slice A ax.length c)).toArray 69::WA bw (l++more)::R)→more.length≤1000→Calls Tryz.prog 156 #[pW bw,.int .u32 aG] w' (Ic bw w.heap.size (aF ⟨1,⟨⟨src,dst,proto,ag,ah⟩,bI,aG,au⟩,gen,ax,bk,till,count⟩ (.slice A ax.length c)).toArray (l++(more++be (u64 aG) 4)) F0 w0 R)):=Lib.hid fun w' more h' hm'=>Mh HL.out w' more aG hg0 (by omega) h' hm'
  clear H1 Wp hg0 hg1 wa wt hs
  by_cases v2:2≤v
  ·by_cases v3:3≤v
   ·have HE:Hid (oz ⟨src,dst,proto,ag,ah⟩++be (u64 bI) 2++be (u64 aG) 4++be (u64 au) 8=dA ⟨1,⟨⟨src,dst,proto,ag,ah⟩,bI,aG,au⟩,gen,ax,bk,till,count⟩ v):=Lib.hid (by unfold dA;rw [if_pos rfl,if_pos v2,if_pos v3])
    go_enter Tryz.func192,Tryz.ntmps192
    go_wp2_with fail
    refine K1.out.mono ?_
    rintro e w1 ⟨rfl,g1⟩
    rw [List.append_nil] at g1
    obtain⟨y6,y7,y8⟩:=HY.out w1 _ g1
    have G1:=Lib.hid g1
    clear g1 K1
    go_wp2_with fail
    refine (Du HL.out w1 (oz ⟨src,dst,proto,ag,ah⟩) bI G1.out (by rw [iI];decide)).mono ?_
    rintro e w2 ⟨rfl,g2⟩
    clear y6 y7 y8 G1
    obtain⟨y6,y7,y8⟩:=HY.out w2 _ g2
    have G2:=Lib.hid g2
    clear g2
    go_wp2_with fail
    refine (K3.out w2 _ G2.out (by simp [iI,aZ])).mono ?_
    rintro e w3 ⟨rfl,g3⟩
    clear y6 y7 y8 G2
    obtain⟨y6,y7,y8⟩:=HY.out w3 _ g3
    have G3:=Lib.hid g3
    clear g3 K3
    go_wp2_with fail
    refine (Wo HL.out w3 _ au G3.out (by simp [iI,aZ])).mono ?_
    rintro e w4 ⟨rfl,g4⟩
    have G4:=Lib.hid (oQ HE.out g4)
    clear y6 y7 y8 G3 g4 HY
    go_wp2_with fail
    go_end0
    exact G4.out
   ·have q3:decide (3≤v)=false:=decide_eq_false v3
    have HE:Hid (oz ⟨src,dst,proto,ag,ah⟩++be (u64 bI) 2++be (u64 aG) 4=dA ⟨1,⟨⟨src,dst,proto,ag,ah⟩,bI,aG,au⟩,gen,ax,bk,till,count⟩ v):=Lib.hid (by unfold dA;rw [if_pos rfl,if_pos v2,if_neg v3,List.append_nil])
    clear v3
    go_enter Tryz.func192,Tryz.ntmps192
    go_wp2_with fail
    refine K1.out.mono ?_
    rintro e w1 ⟨rfl,g1⟩
    rw [List.append_nil] at g1
    obtain⟨y6,y7,y8⟩:=HY.out w1 _ g1
    have G1:=Lib.hid g1
    clear g1 K1
    go_wp2_with fail
    refine (Du HL.out w1 (oz ⟨src,dst,proto,ag,ah⟩) bI G1.out (by rw [iI];decide)).mono ?_
    rintro e w2 ⟨rfl,g2⟩
    clear y6 y7 y8 G1
    obtain⟨y6,y7,y8⟩:=HY.out w2 _ g2
    have G2:=Lib.hid g2
    clear g2
    go_wp2_with fail
    refine (K3.out w2 _ G2.out (by simp [iI,aZ])).mono ?_
    rintro e w3 ⟨rfl,g3⟩
    have G3:=Lib.hid (oQ HE.out g3)
    clear y6 y7 y8 G2 g3 HY K3
    go_wp2_with fail
    go_end0
    exact G3.out
  ·have q2:decide (2≤v)=false:=decide_eq_false v2
   have q3:decide (3≤v)=false:=decide_eq_false (by omega)
   have HE:Hid (oz ⟨src,dst,proto,ag,ah⟩++be (u64 bI) 2=dA ⟨1,⟨⟨src,dst,proto,ag,ah⟩,bI,aG,au⟩,gen,ax,bk,till,count⟩ v):=Lib.hid (by unfold dA;rw [if_pos rfl,if_neg v2,if_neg (by omega),List.append_nil,List.append_nil])
   clear v2
   go_enter Tryz.func192,Tryz.ntmps192
   go_wp2_with fail
   refine K1.out.mono ?_
   rintro e w1 ⟨rfl,g1⟩
   rw [List.append_nil] at g1
   obtain⟨y6,y7,y8⟩:=HY.out w1 _ g1
   have G1:=Lib.hid g1
   clear g1 K1
   go_wp2_with fail
   refine (Du HL.out w1 (oz ⟨src,dst,proto,ag,ah⟩) bI G1.out (by rw [iI];decide)).mono ?_
   rintro e w2 ⟨rfl,g2⟩
   have G2:=Lib.hid (oQ HE.out g2)
   clear y6 y7 y8 G1 g2 HY K3
   go_wp2_with fail
   go_end0
   exact G2.out
 ·subst h1
  have K1:=Lib.hid (Wp.out 2)
  have HE:Hid (oz ⟨src,dst,proto,ag,ah⟩=dA ⟨2,⟨⟨src,dst,proto,ag,ah⟩,bI,aG,au⟩,gen,ax,bk,till,count⟩ v):=Lib.hid rfl
  clear H1 Wp wa wt hs h2
  go_enter Tryz.func192,Tryz.ntmps192
  go_wp2_with fail
  refine K1.out.mono ?_
  rintro e w1 ⟨rfl,g1⟩
  rw [List.append_nil] at g1
  have G1:=Lib.hid (oQ HE.out g1)
  clear g1 K1
  go_wp2_with fail
  go_end0
  exact G1.out
 ·subst h1
  have hw:=u32_in h2.1 h2.2
  have HE:Hid (be (u64 gen) 4++be (u64 ax.length) 1++mP v ax=dA ⟨3,⟨⟨src,dst,proto,ag,ah⟩,bI,aG,au⟩,gen,ax,bk,till,count⟩ v):=Lib.hid rfl
  have HY:=Lib.hid (fun w' l' (h':In F0 w0 w' (Cells w.heap.size (aF ⟨3,⟨⟨src,dst,proto,ag,ah⟩,bI,aG,au⟩,gen,ax,bk,till,count⟩ (.slice A ax.length c)).toArray 69::WA bw l'::R))=>(show w'.cell? ⟨w.heap.size,9,none⟩=some (.int .i64 gen)∧w'.cell? ⟨w.heap.size,10,none⟩=some (.slice A ax.length c) from ⟨cell_of (h'.block 0 rfl) rfl,cell_of (h'.block 0 rfl) rfl⟩))
  have K1:=Lib.hid (Mh HL.out _ [] gen h2.1 (by omega) H1.out (by decide))
  rw [List.nil_append] at K1
  have HS:=Lib.hid hs
  have Gr:Hid (ax.length≤16):=Lib.hid h3
  have Wq:=Lib.hid wa
  obtain⟨y9,mf⟩:=HY.out _ _ H1.out
  clear H1 Wp wa wt hs h2 h3 h4
  go_enter Tryz.func192,Tryz.ntmps192
  go_wp2_with fail
  refine K1.out.mono ?_
  rintro e w1 ⟨rfl,g1⟩
  clear y9 mf
  obtain⟨y9,mf⟩:=HY.out w1 _ g1
  have G1:=Lib.hid g1
  clear g1 K1
  go_wp2_with fail
  refine (ZA HL.out w1 _ _ G1.out (by rw [aZ];decide)).mono ?_
  rintro e w2 ⟨rfl,g2⟩
  clear y9 mf
  obtain⟨y9,mf⟩:=HY.out w2 _ g2
  have HR:Hid (QJ bw w.heap.size (aF ⟨3,⟨⟨src,dst,proto,ag,ah⟩,bI,aG,au⟩,gen,ax,bk,till,count⟩ (.slice A ax.length c)).toArray l (be (u64 gen) 4++be (u64 ax.length) 1) v ax F0 w0 R (.int .i64 0) w2):=Lib.hid ⟨0,Nat.zero_le _,rfl,by
   have e:be (u64 gen) 4++be (u64 ax.length) 1++mP v (ax.take 0)=be (u64 gen) 4++be (u64 ax.length) 1:=by simp [mP]
   rw [e];exact g2⟩
  clear g2 G1
  go_wp2_with fail
  go_loopw [62] (QJ bw w.heap.size (aF ⟨3,⟨⟨src,dst,proto,ag,ah⟩,bI,aG,au⟩,gen,ax,bk,till,count⟩ (.slice A ax.length c)).toArray l (be (Go.Proofs.YtogclkhpbjfadaaGreat.u64 gen) 4++be (Go.Proofs.YtogclkhpbjfadaaGreat.u64 ax.length) 1) v ax F0 w0 R) (fun k _=>ax.length - (intOf k).toNat)
  case atStart=>exact HR.out
  case round=>
   obtain⟨k,hk,rfl,dC⟩:=hrel
   clear HR y9 mf
   by_cases hlt:k < ax.length
   ·obtain⟨b,hb⟩:∃ b,ax[k]?=some b:=⟨ax[k],List.getElem?_eq_getElem hlt⟩
    obtain⟨g,o,rfl,c0,c1,c2⟩:=HS.out.cell dC.drop.drop hb
    obtain⟨wb0,wb1⟩:=Wq.out b (List.mem_of_getElem? hb)
    have hlt':(k:Int) < (ax.length:Int):=Int.ofNat_lt.2 hlt
    have hw2:wrap64 ((k:Int)+1)=(k:Int)+1:=by have:=Gr.out;unfold wrap64;omega
    obtain⟨id,addr,wt⟩:=b
    simp only at c0 c1 c2 wb0 wb1
    obtain⟨M,hM⟩:∃ M,M=be (Go.Proofs.YtogclkhpbjfadaaGreat.u64 gen) 4++be (Go.Proofs.YtogclkhpbjfadaaGreat.u64 ax.length) 1++mP v (ax.take k):=⟨_,rfl⟩
    have hML:M.length≤200:=by
     have:=rZ v (ax.take k)
     have:=Gr.out
     rw [hM];simp only [List.length_append,aZ,List.length_take] at *;omega
    have h3:=(dC.cells #[.int .i64 id,.int .u32 addr,.int .i64 wt] 160).aI (R1:=[_,_,_]) [1,2,0] (by decide) rfl
    rw [← hM] at h3
    have K2:=Lib.hid (Du HL.out _ M id h3 (by omega))
    have HYB:=Lib.hid (fun w' l' (h':In F0 w0 w' (Cells w.heap.size (aF ⟨3,⟨⟨src,dst,proto,ag,ah⟩,bI,aG,au⟩,gen,ax,bk,till,count⟩ (.slice (some ⟨g,o,none⟩) ax.length c)).toArray 69::WA bw l'::Cells wr.heap.size #[.int .i64 id,.int .u32 addr,.int .i64 wt] 160::R))=>(show w'.cell? ⟨wr.heap.size,1,none⟩=some (.int .u32 addr)∧w'.cell? ⟨wr.heap.size,2,none⟩=some (.int .i64 wt) from ⟨cell_of (h'.block 2 rfl) rfl,cell_of (h'.block 2 rfl) rfl⟩))
    have K3:=Lib.hid (fun w' (h':In F0 w0 w' (Cells w.heap.size (aF ⟨3,⟨⟨src,dst,proto,ag,ah⟩,bI,aG,au⟩,gen,ax,bk,till,count⟩ (.slice (some ⟨g,o,none⟩) ax.length c)).toArray 69::WA bw (l++(M++be (Go.Proofs.YtogclkhpbjfadaaGreat.u64 id) 2))::Cells wr.heap.size #[.int .i64 id,.int .u32 addr,.int .i64 wt] 160::R))=>Mh HL.out w' _ addr wb0 wb1 h' (by rw [List.length_append,aZ];omega))
    have K4:=Lib.hid (fun w' (h':In F0 w0 w' (Cells w.heap.size (aF ⟨3,⟨⟨src,dst,proto,ag,ah⟩,bI,aG,au⟩,gen,ax,bk,till,count⟩ (.slice (some ⟨g,o,none⟩) ax.length c)).toArray 69::WA bw (l++(M++be (Go.Proofs.YtogclkhpbjfadaaGreat.u64 id) 2++be (Go.Proofs.YtogclkhpbjfadaaGreat.u64 addr) 4))::Cells wr.heap.size #[.int .i64 id,.int .u32 addr,.int .i64 wt] 160::R))=>ZA HL.out w' _ wt h' (by rw [List.length_append,List.length_append,aZ,aZ];omega))
    have HN:=Lib.hid (fun more w' hm' h'=>Uv (F0:=F0) (w0:=w0) (w:=w') (R:=R) (bw:=bw) (b0:=w.heap.size) (C0:=(aF ⟨3,⟨⟨src,dst,proto,ag,ah⟩,bI,aG,au⟩,gen,ax,bk,till,count⟩ (.slice (some ⟨g,o,none⟩) ax.length c)).toArray) (l:=l) (hd:=be (Go.Proofs.YtogclkhpbjfadaaGreat.u64 gen) 4++be (Go.Proofs.YtogclkhpbjfadaaGreat.u64 ax.length) 1) (more:=more) (v:=v) (ax:=ax) (nb:=wr.heap.size) (C:=#[.int .i64 id,.int .u32 addr,.int .i64 wt]) (ty:=160) hb hm' h')
    rw [← hM] at HN
    clear dC h3 hk hlt hb hM hML wb0 wb1
    by_cases v2:2≤v
    ·have HB:Hid (be (Go.Proofs.YtogclkhpbjfadaaGreat.u64 id) 2++be (Go.Proofs.YtogclkhpbjfadaaGreat.u64 addr) 4++be (Go.Proofs.YtogclkhpbjfadaaGreat.u64 wt) 1=LU v ⟨id,addr,wt⟩):=Lib.hid (by unfold LU;rw [if_pos v2])
     go_wp2_with fail
     refine K2.out.mono ?_
     rintro e w3 ⟨rfl,g3⟩
     obtain⟨z1,z2⟩:=HYB.out w3 _ g3
     have K5:=Lib.hid (K3.out w3 g3)
     clear g3 K2 K3
     go_wp2_with fail
     refine K5.out.mono ?_
     rintro e w4 ⟨rfl,g4⟩
     clear z1 z2
     obtain⟨z1,z2⟩:=HYB.out w4 _ g4
     have K6:=Lib.hid (K4.out w4 g4)
     clear g4 K4 K5
     go_wp2_with fail
     refine K6.out.mono ?_
     rintro e w5 ⟨rfl,g5⟩
     have uf:=Lib.hid (HN.out _ w5 HB.out (by simpa only [List.append_assoc] using g5))
     clear g5 K6 HN z1 z2
     go_wp2_with fail
     go_roundw
     case rel=>(try rw [hw2]);exact uf.out
     case measure=>(try rw [hw2]);exact dV hlt'
    ·have q2:decide (2≤v)=false:=decide_eq_false v2
     have HB:Hid (be (Go.Proofs.YtogclkhpbjfadaaGreat.u64 id) 2++be (Go.Proofs.YtogclkhpbjfadaaGreat.u64 addr) 4=LU v ⟨id,addr,wt⟩):=Lib.hid (by unfold LU;rw [if_neg v2,List.append_nil])
     clear v2
     go_wp2_with fail
     refine K2.out.mono ?_
     rintro e w3 ⟨rfl,g3⟩
     obtain⟨z1,z2⟩:=HYB.out w3 _ g3
     have K5:=Lib.hid (K3.out w3 g3)
     clear g3 K2 K3
     go_wp2_with fail
     refine K5.out.mono ?_
     rintro e w4 ⟨rfl,g4⟩
     have uf:=Lib.hid (HN.out _ w4 HB.out (by simpa only [List.append_assoc] using g4))
     clear g4 K4 K5 HN z1 z2
     go_wp2_with fail
     go_roundw
     case rel=>(try rw [hw2]);exact uf.out
     case measure=>(try rw [hw2]);exact dV hlt'
   ·have hge:(ax.length:Int)≤(k:Int):=Int.ofNat_le.2 (Nat.le_of_not_lt hlt)
    have hkl:ax.take k=ax:=List.take_of_length_le (Nat.le_of_not_lt hlt)
    rw [hkl] at dC
    have G:=Lib.hid (oQ HE.out dC)
    clear dC hkl hlt hk
    go_wp2_with fail
    go_end0
    exact G.out
 ·subst h1
  have HE:Hid (be (u64 bk) 2++be (u64 till) 8=dA ⟨4,⟨⟨src,dst,proto,ag,ah⟩,bI,aG,au⟩,gen,ax,bk,till,count⟩ v):=Lib.hid rfl
  have HY:=Lib.hid (fun w' l' (h':In F0 w0 w' (Cells w.heap.size (aF ⟨4,⟨⟨src,dst,proto,ag,ah⟩,bI,aG,au⟩,gen,ax,bk,till,count⟩ (.slice A ax.length c)).toArray 69::WA bw l'::R))=>(show w'.cell? ⟨w.heap.size,11,none⟩=some (.int .i64 bk)∧w'.cell? ⟨w.heap.size,12,none⟩=some (.int .i64 till) from ⟨cell_of (h'.block 0 rfl) rfl,cell_of (h'.block 0 rfl) rfl⟩))
  have K1:=Lib.hid (Du HL.out _ [] bk H1.out (by decide))
  rw [List.nil_append] at K1
  clear H1 Wp wa wt hs h2 h3
  go_enter Tryz.func192,Tryz.ntmps192
  go_wp2_with fail
  refine K1.out.mono ?_
  rintro e w1 ⟨rfl,g1⟩
  obtain⟨y9,mf⟩:=HY.out w1 _ g1
  have G1:=Lib.hid g1
  clear g1 K1
  go_wp2_with fail
  refine (Wo HL.out w1 _ till G1.out (by rw [aZ];decide)).mono ?_
  rintro e w2 ⟨rfl,g2⟩
  have G:=Lib.hid (oQ HE.out g2)
  clear g2 G1 y9 mf HY
  go_wp2_with fail
  go_end0
  exact G.out
 ·subst h1
  have HE:Hid (be (u64 bk) 2=dA ⟨5,⟨⟨src,dst,proto,ag,ah⟩,bI,aG,au⟩,gen,ax,bk,till,count⟩ v):=Lib.hid rfl
  have K1:=Lib.hid (Du HL.out _ [] bk H1.out (by decide))
  rw [List.nil_append] at K1
  clear H1 Wp wa wt hs h2
  go_enter Tryz.func192,Tryz.ntmps192
  go_wp2_with fail
  refine K1.out.mono ?_
  rintro e w1 ⟨rfl,g1⟩
  have G:=Lib.hid (oQ HE.out g1)
  clear g1 K1
  go_wp2_with fail
  go_end0
  exact G.out
 ·subst h1
  have hw:=u32_in h2.1 h2.2
  have HE:Hid (be (u64 count) 4=dA ⟨6,⟨⟨src,dst,proto,ag,ah⟩,bI,aG,au⟩,gen,ax,bk,till,count⟩ v):=Lib.hid rfl
  have K1:=Lib.hid (Mh HL.out _ [] count h2.1 (by omega) H1.out (by decide))
  rw [List.nil_append] at K1
  clear H1 Wp wa wt hs h2
  go_enter Tryz.func192,Tryz.ntmps192
  go_wp2_with fail
  refine K1.out.mono ?_
  rintro e w1 ⟨rfl,g1⟩
  have G:=Lib.hid (oQ HE.out g1)
  clear g1 K1
  go_wp2_with fail
  go_end0
  exact G.out
end
theorem aU {P:Program} {fn:Func} {p u:Tmp} {ty:TypeId} (h:fn.results=#[.cell p ty,.tmp u]) (tmps:Array Value) (w:World) (g:Nat) (t:TypeId) (cs:Array Value) (fr:Nat×Nat) (d:TypeDesc)
  (hp:tmps.getD p undef=.pointer (some ⟨g,0,none⟩)) (hg:w.heap[g]?=some (.cells cs t fr))
  (hu:P.underlying ty=some d) (hd:(match d with | .struct _ | .array _ _=>true | _=>false)=true) (hi:(P.info? ty).map (·.size)=some cs.size) :
  (results fn tmps).run P w=.ok (.tuple #[.agg cs,tmps.getD u undef]) w:=by
 rw [results_cell_tmp h,hp]
 simp [asAddr,run_loadVar_row w g t ty cs fr d hg hu hd hi,Result.andThen]
section
variable {F0:List Nat} {w0 w:World} {R:List az}
def Ie (r:cB×Int) (F0:List Nat) (w0:World) (R:List az) (e:Ending) (w':World):Prop:=
 ∃ v,e=.returned (.tuple #[.agg #[.int .i64 r.1.kind,.int .i64 r.1.aj,v],.int .i64 r.2])∧In F0 w0 w' (nz v r.1::R)
theorem zK {r:Rec} {A:Option Addr} {c:Nat} (v:Int) (hs:gZ F0 w0 R A r.ax) (wr:mQ r) (hl:r.ax.length≤1000000) (h:In F0 w0 w R):Calls Tryz.prog 101 #[uy r A c,.int .i64 v] w (Ie (dh r v) F0 w0 R):=by
 have KV:=Lib.hid (vz v)
 cases hv:dQ v with
 | false=>
  have e:dh r v=(jc,10):=by unfold dh;rw [if_pos hv]
  have HH:Hid (∀ o o2,In F0 w0 ((w.alloc o).alloc o2) (nz (.slice none 0 0) jc::R)):=Lib.hid (fun o o2=>((h.alloc o).alloc o2).dG 5 1)
  rw [e];rw [hv] at KV
  clear e h hs hl hv wr
  obtain⟨kind,⟨⟨src,dst,proto,ag,ah⟩,bI,aG,au⟩,gen,ax,bk,till,count⟩:=r
  go_enter Tryz.func101,Tryz.ntmps101
  go_wp2_with fail
  refine (KV.out _).mono ?_
  rintro e w1 ⟨rfl,rfl⟩
  clear KV
  go_wp2_with fail
  exact bodyPost_ret (aU Tryz.results101 _ _ (w.heap.size+1) 40 _ (0,0) _ rfl (heap_alloc2_new _ _ _) Tryz.underlying40 rfl (by kernel_rfl)) rfl ⟨.slice none 0 0,rfl,HH.out _ _⟩
 | true=>
  rw [hv] at KV
  have NC:1≤v∧v≤3:=of_decide_eq_true hv
  obtain⟨C0,hC0⟩:∃ C,C=(aF r (.slice A r.ax.length c)).toArray:=⟨_,rfl⟩
  have h2:In F0 w0 ((w.alloc (.cells C0 69)).alloc (.cells #[.int .i64 0,.int .i64 0,.slice none 0 0] 40)) (Cells (w.heap.size+1) #[.int .i64 0,.int .i64 0,.slice none 0 0] 40::Cells w.heap.size C0 69::R):=by
   have h2:=(h.cells C0 69).cells #[.int .i64 0,.int .i64 0,.slice none 0 0] 40
   simp only [World.size_alloc] at h2
   exact h2
  have KM:=Lib.hid (jE (c:=c) (fun w' h'=>hs w' h'.drop.drop) (Nat.le_trans hl (by decide)) h2)
  cases hm:bT r with
  | false=>
   have e:dh r v=(jc,1):=by unfold dh;rw [if_neg (by simp [hv]),if_pos hm]
   rw [e];rw [hm] at KM
   clear e h h2 hs hl hv NC wr hm
   obtain⟨kind,⟨⟨src,dst,proto,ag,ah⟩,bI,aG,au⟩,gen,ax,bk,till,count⟩:=r
   subst hC0
   go_enter Tryz.func101,Tryz.ntmps101
   go_wp2_with fail
   refine (KV.out _).mono ?_
   rintro e w1 ⟨rfl,rfl⟩
   clear KV
   go_wp2_with fail
   refine KM.out.mono ?_
   rintro e w1 ⟨rfl,g1⟩
   have d0:w1.cell? ⟨w.heap.size+1,0,none⟩=some (.int .i64 0):=cell_of (g1.block 0 rfl) rfl
   have d1:w1.cell? ⟨w.heap.size+1,1,none⟩=some (.int .i64 0):=cell_of (g1.block 0 rfl) rfl
   have d2:w1.cell? ⟨w.heap.size+1,2,none⟩=some (.slice none 0 0):=cell_of (g1.block 0 rfl) rfl
   have f0:w1.frozen? ⟨w.heap.size+1,0,none⟩=false:=aL (g1.block 0 rfl)
   have f1:w1.frozen? ⟨w.heap.size+1,1,none⟩=false:=aL (g1.block 0 rfl)
   have f2:w1.frozen? ⟨w.heap.size+1,2,none⟩=false:=aL (g1.block 0 rfl)
   have G:=Lib.hid (g1.gp 0 rfl (xs:=[.int .i64 0,.int .i64 0,.slice none 0 0]) (b:=w.heap.size+1) (C:=#[.int .i64 0,.int .i64 0,.slice none 0 0]) (T:=40) rfl)
   clear g1 KM
   go_wp2_with fail
   exact bodyPost_ret (aU Tryz.results101 _ _ (w.heap.size+1) 40 _ (0,0) _ rfl (G.out.block 0 rfl) Tryz.underlying40 rfl (by kernel_rfl)) rfl ⟨.slice none 0 0,rfl,(G.out.drop.drop).dG 5 1⟩
  | true=>
   have e:dh r v=(⟨r.kind.toNat,v.toNat,dA r v⟩,0):=by unfold dh;rw [if_neg (by simp [hv]),if_neg (by simp [hm])]
   have hk:((r.kind.toNat:Nat):Int)=r.kind:=by
    have hm2:=hm
    rw [dS] at hm2;apply Int.toNat_of_nonneg;omega
   have hvn:((v.toNat:Nat):Int)=v:=Int.toNat_of_nonneg (by omega)
   have hbl:=lD v hm
   rw [e];rw [hm] at KM
   have KW:=Lib.hid (fun w' bw (h':In F0 w0 w' (WA bw []::Cells (w.heap.size+1) #[.int .i64 0,.int .i64 0,.slice none 0 0] 40::Cells w.heap.size C0 69::R))=>ND (c:=c) (l:=[]) v (fun w' h'=>hs w' h'.drop.drop) wr hm (by decide) h')
   simp only [List.nil_append] at KW
   have HC0:Hid (C0[0]?=some (.int .i64 r.kind)):=Lib.hid (by rw [hC0];rfl)
   have HLD:Hid (∀ w':World,w'.heap[w.heap.size]?=some (.cells C0 69 (0,0))→w'.heap[w.heap.size]?=some (.cells (aF r (.slice A r.ax.length c)).toArray 69 (0,0))):=Lib.hid fun w' h'=>by rw [h',hC0]
   have HB:Hid (∀ w' b (h':In F0 w0 w' (ay 5 1 b (dA r v).length (eD (dA r v))::Cells (w.heap.size+1) #[.int .i64 r.kind,.int .i64 v,b] 40::R)),Ie (⟨r.kind.toNat,v.toNat,dA r v⟩,0) F0 w0 R (.returned (.tuple #[.agg #[.int .i64 r.kind,.int .i64 v,b],.int .i64 0])) w'):=Lib.hid fun w' b h'=>⟨b,by simp only;rw [hk,hvn],h'.aI (R1:=[_,_]) [0] (by decide) rfl⟩
   have Gr:=Lib.hid hbl
   clear e h h2 hs hl hv NC wr hm hk hvn hbl
   generalize dA r v=body at *
   obtain⟨kind,⟨⟨src,dst,proto,ag,ah⟩,bI,aG,au⟩,gen,ax,bk,till,count⟩:=r
   have Zy:=hC0
   subst hC0
   clear Zy
   go_enter Tryz.func101,Tryz.ntmps101
   go_wp2_with fail
   refine (KV.out _).mono ?_
   rintro e w1 ⟨rfl,rfl⟩
   clear KV
   go_wp2_with fail
   refine KM.out.mono ?_
   rintro e w1 ⟨rfl,g1⟩
   have g2:=Qd (g1.cells #[.slice none 0 0] 216)
   have K2:=Lib.hid (KW.out _ _ g2)
   have q0:(w1.alloc (.cells #[.slice none 0 0] 216)).heap[w.heap.size]?=some (.cells (aF ⟨kind,⟨⟨src,dst,proto,ag,ah⟩,bI,aG,au⟩,gen,ax,bk,till,count⟩ (.slice A ax.length c)).toArray 69 (0,0)):=g2.block 2 rfl
   clear g1 g2 KM KW
   go_wp2_with (refine wpList_load_row rfl 69 (.tmp 2) rfl w.heap.size rfl 69 _ (0,0) _ q0 Tryz.underlying69 rfl (by kernel_rfl) ?_)
   refine K2.out.mono ?_
   rintro e w2 ⟨rfl,g3⟩
   have y0:w2.cell? ⟨w.heap.size,0,none⟩=some (.int .i64 kind):=cell_of (g3.block 2 rfl) rfl
   have HB3:=Lib.hid (fun w' (h':In F0 w0 w' (WA w1.heap.size body::Cells (w.heap.size+1) #[.int .i64 0,.int .i64 0,.slice none 0 0] 40::Cells w.heap.size (aF ⟨kind,⟨⟨src,dst,proto,ag,ah⟩,bI,aG,au⟩,gen,ax,bk,till,count⟩ (.slice A ax.length c)).toArray 69::R))=>vR h' 0 rfl (Nat.le_trans Gr.out (by decide)))
   have HG3:=Lib.hid (fun n=>g3.drewN n)
   clear q0 K2 g3
   go_wp2_with fail
   go_region_held3 (fun w'=>w'.cell? ⟨w.heap.size,0,none⟩=some (.int .i64 kind)) (first | exact hz | exact y0 | go_keep)
    (first | (go_at_call 158;refine (HB3.out _ (HG3.out _)).mono ?_;rintro e w3 ⟨bv,rfl,g4⟩;have hz:w3.cell? ⟨w.heap.size,0,none⟩=some (.int .i64 kind):=cell_of (g4.block 3 rfl) rfl;have f0:w3.frozen? ⟨w.heap.size+1,0,none⟩=false:=aL (g4.block 2 rfl);have f1:w3.frozen? ⟨w.heap.size+1,1,none⟩=false:=aL (g4.block 2 rfl);have f2:w3.frozen? ⟨w.heap.size+1,2,none⟩=false:=aL (g4.block 2 rfl);have d0:w3.cell? ⟨w.heap.size+1,0,none⟩=some (.int .i64 0):=cell_of (g4.block 2 rfl) rfl;have d1:w3.cell? ⟨w.heap.size+1,1,none⟩=some (.int .i64 0):=cell_of (g4.block 2 rfl) rfl;have d2:w3.cell? ⟨w.heap.size+1,2,none⟩=some (.slice none 0 0):=cell_of (g4.block 2 rfl) rfl;obtain⟨F4,r4⟩:=g4.get 0 rfl;obtain⟨ab,cb,rfl,-,-,-⟩:=ay.shape r4;have G4:=Lib.hid g4;clear g4 r4))
   have g5:=G4.out.gp 2 rfl (xs:=[.int .i64 kind,.int .i64 v,.slice ab body.length cb]) (b:=w.heap.size+1) (C:=#[.int .i64 0,.int .i64 0,.slice none 0 0]) (T:=40) rfl
   have G5:=Lib.hid g5
   have G6:=Lib.hid (HB.out _ _ (g5.aI (R1:=[_,_,_,_]) [0,2] (by decide) rfl))
   clear g5 G4
   go_wp2_with fail
   exact bodyPost_ret (aU Tryz.results101 _ _ (w.heap.size+1) 40 _ (0,0) _ rfl (G5.out.block 2 rfl) Tryz.underlying40 rfl (by kernel_rfl)) rfl G6.out
end
section
variable {F0:List Nat} {w0 w:World} {R:List az} {br:Nat} {s:pE}
abbrev iZ (br:Nat) (s:pE):az:=qL br s.1 s.2
abbrev pR (br:Nat):Value:=.pointer (some ⟨br,0,none⟩)
def jy (v:Value) (br:Nat) (s:pE) (F0:List Nat) (w0:World) (R:List az) (e:Ending) (w':World):Prop:=e=.returned v∧In F0 w0 w' (iZ br s::R)
theorem XD (h:In F0 w0 w (iZ br s::R)):Calls Tryz.prog 226 #[pR br] w (jy (.int .i64 (kS 1 s)) br (gJ 1 s) F0 w0 R):=Pt h 0 rfl
theorem Dv (h:In F0 w0 w (iZ br s::R)):Calls Tryz.prog 171 #[pR br] w (jy (.int .i64 (kS 2 s)) br (gJ 2 s) F0 w0 R):=Eo h 0 rfl
theorem Dw (h:In F0 w0 w (iZ br s::R)):Calls Tryz.prog 170 #[pR br] w (jy (.int .u32 (kS 4 s)) br (gJ 4 s) F0 w0 R):=rY h 0 rfl
theorem Ws (h:In F0 w0 w (iZ br s::R)):Calls Tryz.prog 276 #[pR br] w (jy (.int .i64 (rR (kS 8 s))) br (gJ 8 s) F0 w0 R):=WX h 0 rfl
def XE (r:rU×Bool×pE) (br:Nat) (F0:List Nat) (w0:World) (R:List az) (e:Ending) (w':World):Prop:=e=.returned (.tuple #[.agg (dH r.1),.bool r.2.1])∧In F0 w0 w' (iZ br r.2.2::R)
theorem Mi (h:In F0 w0 w (iZ br s::R)):Calls Tryz.prog 274 #[pR br] w (XE (jV s) br F0 w0 R):=by
 have h1:In F0 w0 (w.alloc (.cells (dH eH) 65)) (iZ br s::Cells w.heap.size (dH eH) 65::R):=(h.cells (dH eH) 65).aI (R1:=[_,_]) [1,0] (by decide) rfl
 have KL:=Lib.hid (TZ h1 0 rfl)
 by_cases h13:s.1.length < 13
 ·have e:jV s=(eH,false,gJ 13 s):=by unfold jV;rw [if_pos h13]
  have KR:=Lib.hid (Pw h1 0 rfl 13 (by decide))
  have q:((s.1.length:Nat):Int) < 13:=by omega
  have HS:Hid (∀ w',In F0 w0 w' (qL br (aS s.1 s.2 13).2.1 (aS s.1 s.2 13).2.2::Cells w.heap.size (dH eH) 65::R)→In F0 w0 w' (iZ br (gJ 13 s)::Cells w.heap.size (dH eH) 65::R)):=Lib.hid fun w' h'=>h'
  rw [e]
  clear e h h1 h13
  go_enter Tryz.func274,Tryz.ntmps274
  go_wp2_with fail
  refine KL.out.mono ?_
  rintro e w1 ⟨rfl,rfl⟩
  clear KL
  go_wp2_with fail
  refine KR.out.mono ?_
  rintro e w1 ⟨v,rfl,g1⟩
  have g2:=HS.out w1 g1.drop
  have q1:=fG (g2.block 1 rfl)
  have G:=Lib.hid (g2.gp 1 rfl (xs:=(dH eH).toList) (b:=w.heap.size) (C:=dH eH) (T:=65) rfl)
  have Q1:=Lib.hid q1
  clear g1 g2 q1 KR HS
  go_wp2_with (refine wpList_store_mid (op:=⟨none,Op.store 65 (.tmp 2) (.tmp 12),_,_,_,_⟩) (by rfl) 65 (.tmp 2) (.tmp 12) rfl w.heap.size 0 (dH eH) (by rfl) (by rfl) Q1.out (by kernel_rfl) (Bf _) ?_)
  exact bodyPost_ret (aU Tryz.results274 _ _ w.heap.size 65 _ (0,0) _ rfl (G.out.block 1 rfl) Tryz.underlying65 rfl (by kernel_rfl)) rfl ⟨rfl,G.out.aI (R1:=[_,_]) [0] (by decide) rfl⟩
 ·have q:decide (((s.1.length:Nat):Int) < 13)=false:=decide_eq_false (by omega)
  obtain⟨s1,hs1⟩:∃ x,x=gJ 4 s:=⟨_,rfl⟩
  obtain⟨s2,hs2⟩:∃ x,x=gJ 4 s1:=⟨_,rfl⟩
  obtain⟨s3,hs3⟩:∃ x,x=gJ 1 s2:=⟨_,rfl⟩
  obtain⟨s4,hs4⟩:∃ x,x=gJ 2 s3:=⟨_,rfl⟩
  obtain⟨s5,hs5⟩:∃ x,x=gJ 2 s4:=⟨_,rfl⟩
  obtain⟨a1,ha1⟩:∃ x,x=kS 4 s:=⟨_,rfl⟩
  obtain⟨a2,ha2⟩:∃ x,x=kS 4 s1:=⟨_,rfl⟩
  obtain⟨a3,Pg⟩:∃ x,x=kS 1 s2:=⟨_,rfl⟩
  obtain⟨a4,ha4⟩:∃ x,x=kS 2 s3:=⟨_,rfl⟩
  obtain⟨a5,ha5⟩:∃ x,x=kS 2 s4:=⟨_,rfl⟩
  have ht:yE s=⟨a1,a2,a3,a4,a5⟩:=by unfold yE;rw [← hs1,← hs2,← hs3,← hs4,← ha1,← ha2,← Pg,← ha4,← ha5]
  have e:jV s=if rW ⟨a1,a2,a3,a4,a5⟩ then (⟨a1,a2,a3,a4,a5⟩,true,s5) else (eH,false,s5):=by
   unfold jV;rw [if_neg h13,ht,← hs1,← hs2,← hs3,← hs4,← hs5]
  have K1:=Dw h1
  rw [← ha1,← hs1] at K1
  have NF:=Lib.hid K1
  have Uw:Hid (∀ w' R',In F0 w0 w' (iZ br s1::R')→Calls Tryz.prog 170 #[pR br] w' (jy (.int .u32 a2) br s2 F0 w0 R')):=Lib.hid fun w' R' h'=>by rw [ha2,hs2];exact Dw h'
  have Ux:Hid (∀ w' R',In F0 w0 w' (iZ br s2::R')→Calls Tryz.prog 226 #[pR br] w' (jy (.int .i64 a3) br s3 F0 w0 R')):=Lib.hid fun w' R' h'=>by rw [Pg,hs3];exact XD h'
  have HK4:Hid (∀ w' R',In F0 w0 w' (iZ br s3::R')→Calls Tryz.prog 171 #[pR br] w' (jy (.int .i64 a4) br s4 F0 w0 R')):=Lib.hid fun w' R' h'=>by rw [ha4,hs4];exact Dv h'
  have HK5:Hid (∀ w' R',In F0 w0 w' (iZ br s4::R')→Calls Tryz.prog 171 #[pR br] w' (jy (.int .i64 a5) br s5 F0 w0 R')):=Lib.hid fun w' R' h'=>by rw [ha5,hs5];exact Dv h'
  have KT:=Lib.hid (JW ⟨a1,a2,a3,a4,a5⟩)
  rw [e]
  clear e h h1 h13 ht hs1 hs2 hs3 hs4 hs5 ha1 ha2 Pg ha4 ha5 K1
  generalize ((a1:Nat):Int)=t1 at *
  generalize ((a2:Nat):Int)=t2 at *
  generalize ((a3:Nat):Int)=t3 at *
  generalize ((a4:Nat):Int)=t4 at *
  generalize ((a5:Nat):Int)=t5 at *
  by_cases hm:rW ⟨t1,t2,t3,t4,t5⟩
  ·rw [if_pos hm]
   rw [decide_eq_true hm] at KT
   clear hm
   go_enter Tryz.func274,Tryz.ntmps274
   go_wp2_with fail
   refine KL.out.mono ?_
   rintro e w1 ⟨rfl,rfl⟩
   clear KL
   go_wp2_with fail
   refine NF.out.mono ?_
   rintro e w1 ⟨rfl,g1⟩
   have G1:=Lib.hid (Uw.out w1 _ g1)
   clear g1 NF Uw
   go_wp2_with fail
   refine G1.out.mono ?_
   rintro e w2 ⟨rfl,g2⟩
   have G2:=Lib.hid (Ux.out w2 _ g2)
   clear g2 G1 Ux
   go_wp2_with fail
   refine G2.out.mono ?_
   rintro e w3 ⟨rfl,g3⟩
   have g4:=(g3.cells #[.int .u32 t1,.int .u32 t2,.int .i64 t3,.int .i64 0,.int .i64 0] 65).aI (R1:=[_,_,_]) [1,0,2] (by decide) rfl
   have G4:=Lib.hid (HK4.out _ _ g4)
   clear g3 g4 G2 HK4
   go_wp2_with fail
   refine G4.out.mono ?_
   rintro e w4 ⟨rfl,g5⟩
   have G5:=Lib.hid (HK5.out w4 _ g5)
   clear g5 G4 HK5
   go_wp2_with fail
   refine G5.out.mono ?_
   rintro e w5 ⟨rfl,g6⟩
   have f3:w5.frozen? ⟨w3.heap.size,3,none⟩=false:=aL (g6.block 1 rfl)
   have f4:w5.frozen? ⟨w3.heap.size,4,none⟩=false:=aL (g6.block 1 rfl)
   have d3:w5.cell? ⟨w3.heap.size,3,none⟩=some (.int .i64 0):=cell_of (g6.block 1 rfl) rfl
   have d4:w5.cell? ⟨w3.heap.size,4,none⟩=some (.int .i64 0):=cell_of (g6.block 1 rfl) rfl
   have g7:In F0 w0 ((w5.setCell ⟨w3.heap.size,3,none⟩ (.int .i64 t4)).setCell ⟨w3.heap.size,4,none⟩ (.int .i64 t5)) (iZ br s5::Cells w3.heap.size (dH ⟨t1,t2,t3,t4,t5⟩) 65::Cells w.heap.size (dH eH) 65::R):=by
    have g7:=In.ku [.int .i64 t4,.int .i64 t5] 3 1 g6 (b:=w3.heap.size) (C:=#[.int .u32 t1,.int .u32 t2,.int .i64 t3,.int .i64 0,.int .i64 0]) (T:=65) rfl
    rw [jd (ys:=(dH ⟨t1,t2,t3,t4,t5⟩).toList) (by simp) (by simp)] at g7
    exact g7
   have q0:((w5.setCell ⟨w3.heap.size,3,none⟩ (.int .i64 t4)).setCell ⟨w3.heap.size,4,none⟩ (.int .i64 t5)).heap[w3.heap.size]?=some (.cells (dH ⟨t1,t2,t3,t4,t5⟩) 65 (0,0)):=g7.block 1 rfl
   have G7:=Lib.hid g7
   clear g6 g7 G5
   go_wp2_with (refine wpList_load_row rfl 65 (.tmp 6) rfl w3.heap.size rfl 65 _ (0,0) _ q0 Tryz.underlying65 rfl (by kernel_rfl) ?_)
   refine (KT.out _).mono ?_
   rintro e w6 ⟨rfl,rfl⟩
   clear KT f3 f4 d3 d4
   obtain⟨W,rfl,g8⟩:∃ W,W=(w5.setCell ⟨w3.heap.size,3,none⟩ (.int .i64 t4)).setCell ⟨w3.heap.size,4,none⟩ (.int .i64 t5)∧In F0 w0 (W.alloc (.cells (dH ⟨t1,t2,t3,t4,t5⟩) 65)) (iZ br s5::Cells w3.heap.size (dH ⟨t1,t2,t3,t4,t5⟩) 65::Cells w.heap.size (dH eH) 65::R):=⟨_,rfl,G7.out.alloc _⟩
   have q1:(((w5.setCell ⟨w3.heap.size,3,none⟩ (.int .i64 t4)).setCell ⟨w3.heap.size,4,none⟩ (.int .i64 t5)).alloc (.cells (dH ⟨t1,t2,t3,t4,t5⟩) 65)).heap[w3.heap.size]?=some (.cells (dH ⟨t1,t2,t3,t4,t5⟩) 65 (0,0)):=g8.block 1 rfl
   have Q2:=Lib.hid (fG (g8.block 2 rfl))
   have G8:=Lib.hid (g8.gp 2 rfl (xs:=(dH ⟨t1,t2,t3,t4,t5⟩).toList) (b:=w.heap.size) (C:=dH eH) (T:=65) rfl)
   clear g8 q0
   go_wp2_with (refine wpList_load_row rfl 65 (.tmp 6) rfl w3.heap.size rfl 65 _ (0,0) _ q1 Tryz.underlying65 rfl (by kernel_rfl) ?_;refine wpList_store_mid (op:=⟨none,Op.store 65 (.tmp 2) (.tmp 34),_,_,_,_⟩) (by rfl) 65 (.tmp 2) (.tmp 34) rfl w.heap.size 0 (dH ⟨t1,t2,t3,t4,t5⟩) (by rfl) (by rfl) Q2.out (by kernel_rfl) (Bf _) ?_)
   exact bodyPost_ret (aU Tryz.results274 _ _ w.heap.size 65 _ (0,0) _ rfl (G8.out.block 2 rfl) Tryz.underlying65 rfl (by kernel_rfl)) rfl ⟨rfl,G8.out.aI (R1:=[_,_,_]) [0] (by decide) rfl⟩
  ·rw [if_neg hm]
   rw [decide_eq_false hm] at KT
   clear hm
   go_enter Tryz.func274,Tryz.ntmps274
   go_wp2_with fail
   refine KL.out.mono ?_
   rintro e w1 ⟨rfl,rfl⟩
   clear KL
   go_wp2_with fail
   refine NF.out.mono ?_
   rintro e w1 ⟨rfl,g1⟩
   have G1:=Lib.hid (Uw.out w1 _ g1)
   clear g1 NF Uw
   go_wp2_with fail
   refine G1.out.mono ?_
   rintro e w2 ⟨rfl,g2⟩
   have G2:=Lib.hid (Ux.out w2 _ g2)
   clear g2 G1 Ux
   go_wp2_with fail
   refine G2.out.mono ?_
   rintro e w3 ⟨rfl,g3⟩
   have g4:=(g3.cells #[.int .u32 t1,.int .u32 t2,.int .i64 t3,.int .i64 0,.int .i64 0] 65).aI (R1:=[_,_,_]) [1,0,2] (by decide) rfl
   have G4:=Lib.hid (HK4.out _ _ g4)
   clear g3 g4 G2 HK4
   go_wp2_with fail
   refine G4.out.mono ?_
   rintro e w4 ⟨rfl,g5⟩
   have G5:=Lib.hid (HK5.out w4 _ g5)
   clear g5 G4 HK5
   go_wp2_with fail
   refine G5.out.mono ?_
   rintro e w5 ⟨rfl,g6⟩
   have f3:w5.frozen? ⟨w3.heap.size,3,none⟩=false:=aL (g6.block 1 rfl)
   have f4:w5.frozen? ⟨w3.heap.size,4,none⟩=false:=aL (g6.block 1 rfl)
   have d3:w5.cell? ⟨w3.heap.size,3,none⟩=some (.int .i64 0):=cell_of (g6.block 1 rfl) rfl
   have d4:w5.cell? ⟨w3.heap.size,4,none⟩=some (.int .i64 0):=cell_of (g6.block 1 rfl) rfl
   have g7:In F0 w0 ((w5.setCell ⟨w3.heap.size,3,none⟩ (.int .i64 t4)).setCell ⟨w3.heap.size,4,none⟩ (.int .i64 t5)) (iZ br s5::Cells w3.heap.size (dH ⟨t1,t2,t3,t4,t5⟩) 65::Cells w.heap.size (dH eH) 65::R):=by
    have g7:=In.ku [.int .i64 t4,.int .i64 t5] 3 1 g6 (b:=w3.heap.size) (C:=#[.int .u32 t1,.int .u32 t2,.int .i64 t3,.int .i64 0,.int .i64 0]) (T:=65) rfl
    rw [jd (ys:=(dH ⟨t1,t2,t3,t4,t5⟩).toList) (by simp) (by simp)] at g7
    exact g7
   have q0:((w5.setCell ⟨w3.heap.size,3,none⟩ (.int .i64 t4)).setCell ⟨w3.heap.size,4,none⟩ (.int .i64 t5)).heap[w3.heap.size]?=some (.cells (dH ⟨t1,t2,t3,t4,t5⟩) 65 (0,0)):=g7.block 1 rfl
   have G7:=Lib.hid g7
   clear g6 g7 G5
   go_wp2_with (refine wpList_load_row rfl 65 (.tmp 6) rfl w3.heap.size rfl 65 _ (0,0) _ q0 Tryz.underlying65 rfl (by kernel_rfl) ?_)
   refine (KT.out _).mono ?_
   rintro e w6 ⟨rfl,rfl⟩
   clear KT f3 f4 d3 d4
   obtain⟨W,rfl,g8⟩:∃ W,W=(w5.setCell ⟨w3.heap.size,3,none⟩ (.int .i64 t4)).setCell ⟨w3.heap.size,4,none⟩ (.int .i64 t5)∧In F0 w0 (W.alloc (.cells (dH ⟨t1,t2,t3,t4,t5⟩) 65)) (iZ br s5::Cells w3.heap.size (dH ⟨t1,t2,t3,t4,t5⟩) 65::Cells w.heap.size (dH eH) 65::R):=⟨_,rfl,G7.out.alloc _⟩
   have Q2:=Lib.hid (fG (g8.block 2 rfl))
   have G8:=Lib.hid (g8.gp 2 rfl (xs:=(dH eH).toList) (b:=w.heap.size) (C:=dH eH) (T:=65) rfl)
   clear g8 q0
   go_wp2_with (refine wpList_store_mid (op:=⟨none,Op.store 65 (.tmp 2) (.tmp 33),_,_,_,_⟩) (by rfl) 65 (.tmp 2) (.tmp 33) rfl w.heap.size 0 (dH eH) (by rfl) (by rfl) Q2.out (by kernel_rfl) (Bf _) ?_)
   exact bodyPost_ret (aU Tryz.results274 _ _ w.heap.size 65 _ (0,0) _ rfl (G8.out.block 2 rfl) Tryz.underlying65 rfl (by kernel_rfl)) rfl ⟨rfl,G8.out.aI (R1:=[_,_,_]) [0] (by decide) rfl⟩
end
end Go.Proofs.YtogclkhpbjfadaaGreat
