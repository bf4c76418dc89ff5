/- Rows.StoreReadsSaid -/
import Derived.Test.YtaopfagclnocdaaGreatRD13
import Derived.Test.YtaopfagclnocdaaGreatRD7
import Derived.Laws.ResultCell
import Derived.Deep.DeepCutAuto
namespace Go.Proofs.YtaopfagclnocdaaGreat
open Go.RowKit
set_option linter.unusedVariables false
set_option maxHeartbeats 64000000
set_option maxRecDepth 100000
section
variable {F0:List Nat} {w0 w:World} {R:List Asrt} {bw b0:Nat} {C0:Array Value} {l:List UInt8}
abbrev pW (bw:Nat):Value:=.pointer (some ⟨bw,0,none⟩)
def WPost (bw b0:Nat) (C0:Array Value) (l:List UInt8) (F0:List Nat) (w0:World) (R:List Asrt) (e:Ending) (w':World):Prop:=e=.returned (.tuple #[])∧In F0 w0 w' (Cells b0 C0 45::WA bw l::R)
theorem k_u8 (hl:l.length≤100000) (w':World) (more:List UInt8) (n:Int) (h:In F0 w0 w' (Cells b0 C0 45::WA bw (l++more)::R)) (hm:more.length≤1000):Calls Tryz.prog 176 #[pW bw,.int .i64 n] w' (WPost bw b0 C0 (l++(more++be (u64 n) 1)) F0 w0 R):=by
 have:=o_wu8 h 1 rfl (by rw [List.length_append];omega) n
 rw [← List.append_assoc];exact this
theorem k_u16 (hl:l.length≤100000) (w':World) (more:List UInt8) (n:Int) (h:In F0 w0 w' (Cells b0 C0 45::WA bw (l++more)::R)) (hm:more.length≤1000):Calls Tryz.prog 172 #[pW bw,.int .i64 n] w' (WPost bw b0 C0 (l++(more++be (u64 n) 2)) F0 w0 R):=by
 have:=o_wu16 h 1 rfl (by rw [List.length_append];omega) n
 rw [← List.append_assoc];exact this
theorem k_u32 (hl:l.length≤100000) (w':World) (more:List UInt8) (n:Int) (h0:0≤n) (h1:n < 4294967296) (h:In F0 w0 w' (Cells b0 C0 45::WA bw (l++more)::R)) (hm:more.length≤1000):Calls Tryz.prog 174 #[pW bw,.int .u32 n] w' (WPost bw b0 C0 (l++(more++be (u64 n) 4)) F0 w0 R):=by
 have:=o_wu32 h 1 rfl (by rw [List.length_append];omega) h0 h1
 rw [← List.append_assoc];exact this
theorem k_i64 (hl:l.length≤100000) (w':World) (more:List UInt8) (n:Int) (h:In F0 w0 w' (Cells b0 C0 45::WA bw (l++more)::R)) (hm:more.length≤1000):Calls Tryz.prog 175 #[pW bw,.int .i64 n] w' (WPost bw b0 C0 (l++(more++be (u64 n) 8)) F0 w0 R):=by
 have:=o_wi64 h 1 rfl (by rw [List.length_append];omega) n
 rw [← List.append_assoc];exact this
theorem u32_in {n:Int} (h0:0≤n) (h1:n≤1000000):IntKind.u32.wrap n=n:=by
 have e:IntKind.u32.wrap n=n % 4294967296:=rfl
 rw [e];omega
def WrPost (bw:Nat) (l:List UInt8) (F0:List Nat) (w0:World) (R:List Asrt) (e:Ending) (w':World):Prop:=e=.returned (.tuple #[])∧In F0 w0 w' (WA bw l::R)
theorem wr_done {l' l2:List UInt8} (e:l'=l2) (h:In F0 w0 w (Cells b0 C0 45::WA bw (l++l')::R)):WrPost bw (l++l2) F0 w0 R (.returned (.tuple #[])) w:=by subst e;exact⟨rfl,h.drop⟩
def WbRel (bw b0:Nat) (C0:Array Value) (l hd:List UInt8) (v:Int) (bks:List Bk) (F0:List Nat) (w0:World) (R:List Asrt) (i:Value) (wr:World):Prop:=
 ∃ k:Nat,k≤bks.length∧i=.int .i64 k∧In F0 w0 wr (Cells b0 C0 45::WA bw (l++(hd++bksB v (bks.take k)))::R)
theorem wb_step {hd more:List UInt8} {v:Int} {bks:List Bk} {k nb:Nat} {b:Bk} {C:Array Value} {ty:Nat} (hb:bks[k]?=some b) (hm:more=bkB v b) (h:In F0 w0 w (Cells b0 C0 45::WA bw (l++(hd++bksB v (bks.take k)++more))::Cells nb C ty::R)):WbRel bw b0 C0 l hd v bks F0 w0 R (.int .i64 ((k:Int)+1)) w:=by
 subst hm
 refine⟨k+1,(List.getElem?_eq_some_iff.1 hb).1,by rw [Int.natCast_add];rfl,?_⟩
 have e:bksB v (bks.take (k+1))=bksB v (bks.take k)++bkB v b:=by rw [List.take_add_one,hb];exact bksB_snoc v _ b
 rw [e,← List.append_assoc hd]
 exact h.sel2 (R1:=[_,_,_]) [0,1] (by decide) rfl
theorem o_rcwrite {r:Rec} {A:Option Addr} {c:Nat} (v:Int) (hs:BksAt F0 w0 R A r.bks) (wr:WfR r) (hm:mayRec r=true) (hl:l.length≤100000) (h:In F0 w0 w (WA bw l::R)):Calls Tryz.prog 104 #[pW bw,agR r A c,.int .i64 v] w (WrPost bw (l++recBody r v) F0 w0 R):=by
 have hmf:∀ (fn:Fn) (first cap:Array Value) (w:World),(Instr.makeFunc fn first cap).run Tryz.prog w=.ok (.func fn first cap) w:=fun _ _ _ _=>rfl
 have HL:=Lib.hid hl
 rw [mayRec_iff] at hm
 have h0:In F0 w0 w (WA bw (l++[])::R):=by rw [List.append_nil];exact h
 obtain⟨kind,⟨⟨src,dst,proto,sport,dport⟩,fbk,fgen,fseen⟩,gen,bks,bk,till,count⟩:=r
 obtain⟨wt,wa⟩:=wr
 simp only at hm wt wa hs
 have H1:=Lib.hid (h0.cells (encRL ⟨kind,⟨⟨src,dst,proto,sport,dport⟩,fbk,fgen,fseen⟩,gen,bks,bk,till,count⟩ (.slice A bks.length c)).toArray 45)
 have HTW:=Lib.hid (fun (k:Int)=>o_twrite (h0.cells (encRL ⟨k,⟨⟨src,dst,proto,sport,dport⟩,fbk,fgen,fseen⟩,gen,bks,bk,till,count⟩ (.slice A bks.length c)).toArray 45) 1 rfl (by rw [List.append_nil];omega) wt)
 clear h h0 hl
 rcases hm with ⟨h1,h2⟩|⟨h1,h2⟩|⟨h1,h2,h3,h4⟩|⟨h1,h2,h3⟩|⟨h1,h2⟩|⟨h1,h2⟩
 ·-- a flow
  subst h1
  have hg0:=h2.g0
  have hg1:=h2.g1
  simp only at hg0 hg1
  have hw:=u32_in hg0 hg1
  have HY:=Lib.hid (fun w' l' (h':In F0 w0 w' (Cells w.heap.size (encRL ⟨1,⟨⟨src,dst,proto,sport,dport⟩,fbk,fgen,fseen⟩,gen,bks,bk,till,count⟩ (.slice A bks.length c)).toArray 45::WA bw l'::R))=>(show w'.cell? ⟨w.heap.size,6,none⟩=some (.int .i64 fbk)∧w'.cell? ⟨w.heap.size,7,none⟩=some (.int .i64 fgen)∧w'.cell? ⟨w.heap.size,8,none⟩=some (.int .i64 fseen) from ⟨cell_of (h'.block 0 rfl) rfl,cell_of (h'.block 0 rfl) rfl,cell_of (h'.block 0 rfl) rfl⟩))
  have K1:=Lib.hid (HTW.out 1)
  have K3:Hid (∀ w' more,In F0 w0 w' (Cells w.heap.size (encRL ⟨1,⟨⟨src,dst,proto,sport,dport⟩,fbk,fgen,fseen⟩,gen,bks,bk,till,count⟩ (.slice A bks.length c)).toArray 45::WA bw (l++more)::R)→more.length≤1000→Calls Tryz.prog 174 #[pW bw,.int .u32 fgen] w' (WPost bw w.heap.size (encRL ⟨1,⟨⟨src,dst,proto,sport,dport⟩,fbk,fgen,fseen⟩,gen,bks,bk,till,count⟩ (.slice A bks.length c)).toArray (l++(more++be (u64 fgen) 4)) F0 w0 R)):=Lib.hid fun w' more h' hm'=>k_u32 HL.out w' more fgen hg0 (by omega) h' hm'
  clear H1 HTW hg0 hg1 wa wt hs
  by_cases v2:2≤v
  ·by_cases v3:3≤v
   ·have HE:Hid (keyL ⟨src,dst,proto,sport,dport⟩++be (u64 fbk) 2++be (u64 fgen) 4++be (u64 fseen) 8=recBody ⟨1,⟨⟨src,dst,proto,sport,dport⟩,fbk,fgen,fseen⟩,gen,bks,bk,till,count⟩ v):=Lib.hid (by unfold recBody;rw [if_pos rfl,if_pos v2,if_pos v3])
    go_enter Tryz.func104,Tryz.ntmps104
    go_wp2_with fail
    refine K1.out.mono ?_
    rintro e w1 ⟨rfl,g1⟩
    rw [List.append_nil] at g1
    obtain⟨y6,y7,y8⟩:=HY.out w1 _ g1
    have G1:=Lib.hid g1
    clear g1 K1
    go_wp2_with fail
    refine (k_u16 HL.out w1 (keyL ⟨src,dst,proto,sport,dport⟩) fbk G1.out (by rw [keyL_length];decide)).mono ?_
    rintro e w2 ⟨rfl,g2⟩
    clear y6 y7 y8 G1
    obtain⟨y6,y7,y8⟩:=HY.out w2 _ g2
    have G2:=Lib.hid g2
    clear g2
    go_wp2_with fail
    refine (K3.out w2 _ G2.out (by simp [keyL_length,be_length])).mono ?_
    rintro e w3 ⟨rfl,g3⟩
    clear y6 y7 y8 G2
    obtain⟨y6,y7,y8⟩:=HY.out w3 _ g3
    have G3:=Lib.hid g3
    clear g3 K3
    go_wp2_with fail
    refine (k_i64 HL.out w3 _ fseen G3.out (by simp [keyL_length,be_length])).mono ?_
    rintro e w4 ⟨rfl,g4⟩
    have G4:=Lib.hid (wr_done HE.out g4)
    clear y6 y7 y8 G3 g4 HY
    go_wp2_with fail
    go_end0
    exact G4.out
   ·have q3:decide (3≤v)=false:=decide_eq_false v3
    have HE:Hid (keyL ⟨src,dst,proto,sport,dport⟩++be (u64 fbk) 2++be (u64 fgen) 4=recBody ⟨1,⟨⟨src,dst,proto,sport,dport⟩,fbk,fgen,fseen⟩,gen,bks,bk,till,count⟩ v):=Lib.hid (by unfold recBody;rw [if_pos rfl,if_pos v2,if_neg v3,List.append_nil])
    clear v3
    go_enter Tryz.func104,Tryz.ntmps104
    go_wp2_with fail
    refine K1.out.mono ?_
    rintro e w1 ⟨rfl,g1⟩
    rw [List.append_nil] at g1
    obtain⟨y6,y7,y8⟩:=HY.out w1 _ g1
    have G1:=Lib.hid g1
    clear g1 K1
    go_wp2_with fail
    refine (k_u16 HL.out w1 (keyL ⟨src,dst,proto,sport,dport⟩) fbk G1.out (by rw [keyL_length];decide)).mono ?_
    rintro e w2 ⟨rfl,g2⟩
    clear y6 y7 y8 G1
    obtain⟨y6,y7,y8⟩:=HY.out w2 _ g2
    have G2:=Lib.hid g2
    clear g2
    go_wp2_with fail
    refine (K3.out w2 _ G2.out (by simp [keyL_length,be_length])).mono ?_
    rintro e w3 ⟨rfl,g3⟩
    have G3:=Lib.hid (wr_done HE.out g3)
    clear y6 y7 y8 G2 g3 HY K3
    go_wp2_with fail
    go_end0
    exact G3.out
  ·have q2:decide (2≤v)=false:=decide_eq_false v2
   have q3:decide (3≤v)=false:=decide_eq_false (by omega)
   have HE:Hid (keyL ⟨src,dst,proto,sport,dport⟩++be (u64 fbk) 2=recBody ⟨1,⟨⟨src,dst,proto,sport,dport⟩,fbk,fgen,fseen⟩,gen,bks,bk,till,count⟩ v):=Lib.hid (by unfold recBody;rw [if_pos rfl,if_neg v2,if_neg (by omega),List.append_nil,List.append_nil])
   clear v2
   go_enter Tryz.func104,Tryz.ntmps104
   go_wp2_with fail
   refine K1.out.mono ?_
   rintro e w1 ⟨rfl,g1⟩
   rw [List.append_nil] at g1
   obtain⟨y6,y7,y8⟩:=HY.out w1 _ g1
   have G1:=Lib.hid g1
   clear g1 K1
   go_wp2_with fail
   refine (k_u16 HL.out w1 (keyL ⟨src,dst,proto,sport,dport⟩) fbk G1.out (by rw [keyL_length];decide)).mono ?_
   rintro e w2 ⟨rfl,g2⟩
   have G2:=Lib.hid (wr_done HE.out g2)
   clear y6 y7 y8 G1 g2 HY K3
   go_wp2_with fail
   go_end0
   exact G2.out
 ·subst h1
  have K1:=Lib.hid (HTW.out 2)
  have HE:Hid (keyL ⟨src,dst,proto,sport,dport⟩=recBody ⟨2,⟨⟨src,dst,proto,sport,dport⟩,fbk,fgen,fseen⟩,gen,bks,bk,till,count⟩ v):=Lib.hid rfl
  clear H1 HTW wa wt hs h2
  go_enter Tryz.func104,Tryz.ntmps104
  go_wp2_with fail
  refine K1.out.mono ?_
  rintro e w1 ⟨rfl,g1⟩
  rw [List.append_nil] at g1
  have G1:=Lib.hid (wr_done HE.out g1)
  clear g1 K1
  go_wp2_with fail
  go_end0
  exact G1.out
 ·subst h1
  have hw:=u32_in h2.1 h2.2
  have HE:Hid (be (u64 gen) 4++be (u64 bks.length) 1++bksB v bks=recBody ⟨3,⟨⟨src,dst,proto,sport,dport⟩,fbk,fgen,fseen⟩,gen,bks,bk,till,count⟩ v):=Lib.hid rfl
  have HY:=Lib.hid (fun w' l' (h':In F0 w0 w' (Cells w.heap.size (encRL ⟨3,⟨⟨src,dst,proto,sport,dport⟩,fbk,fgen,fseen⟩,gen,bks,bk,till,count⟩ (.slice A bks.length c)).toArray 45::WA bw l'::R))=>(show w'.cell? ⟨w.heap.size,9,none⟩=some (.int .i64 gen)∧w'.cell? ⟨w.heap.size,10,none⟩=some (.slice A bks.length c) from ⟨cell_of (h'.block 0 rfl) rfl,cell_of (h'.block 0 rfl) rfl⟩))
  have K1:=Lib.hid (k_u32 HL.out _ [] gen h2.1 (by omega) H1.out (by decide))
  rw [List.nil_append] at K1
  have HS:=Lib.hid hs
  have HBL:Hid (bks.length≤16):=Lib.hid h3
  have HWA:=Lib.hid wa
  obtain⟨y9,y10⟩:=HY.out _ _ H1.out
  clear H1 HTW wa wt hs h2 h3 h4
  go_enter Tryz.func104,Tryz.ntmps104
  go_wp2_with fail
  refine K1.out.mono ?_
  rintro e w1 ⟨rfl,g1⟩
  clear y9 y10
  obtain⟨y9,y10⟩:=HY.out w1 _ g1
  have G1:=Lib.hid g1
  clear g1 K1
  go_wp2_with fail
  refine (k_u8 HL.out w1 _ _ G1.out (by rw [be_length];decide)).mono ?_
  rintro e w2 ⟨rfl,g2⟩
  clear y9 y10
  obtain⟨y9,y10⟩:=HY.out w2 _ g2
  have HR:Hid (WbRel bw w.heap.size (encRL ⟨3,⟨⟨src,dst,proto,sport,dport⟩,fbk,fgen,fseen⟩,gen,bks,bk,till,count⟩ (.slice A bks.length c)).toArray l (be (u64 gen) 4++be (u64 bks.length) 1) v bks F0 w0 R (.int .i64 0) w2):=Lib.hid ⟨0,Nat.zero_le _,rfl,by
   have e:be (u64 gen) 4++be (u64 bks.length) 1++bksB v (bks.take 0)=be (u64 gen) 4++be (u64 bks.length) 1:=by simp [bksB]
   rw [e];exact g2⟩
  clear g2 G1
  go_wp2_with fail
  go_loopw [62] (WbRel bw w.heap.size (encRL ⟨3,⟨⟨src,dst,proto,sport,dport⟩,fbk,fgen,fseen⟩,gen,bks,bk,till,count⟩ (.slice A bks.length c)).toArray l (be (Go.Proofs.YtaopfagclnocdaaGreat.u64 gen) 4++be (Go.Proofs.YtaopfagclnocdaaGreat.u64 bks.length) 1) v bks F0 w0 R) (fun k _=>bks.length - (intOf k).toNat)
  case atStart=>exact HR.out
  case round=>
   obtain⟨k,hk,rfl,hio⟩:=hrel
   clear HR y9 y10
   by_cases hlt:k < bks.length
   ·obtain⟨b,hb⟩:∃ b,bks[k]?=some b:=⟨bks[k],List.getElem?_eq_getElem hlt⟩
    obtain⟨g,o,rfl,c0,c1,c2⟩:=HS.out.cell hio.drop.drop hb
    obtain⟨wb0,wb1⟩:=HWA.out b (List.mem_of_getElem? hb)
    have hlt':(k:Int) < (bks.length:Int):=Int.ofNat_lt.2 hlt
    have hw2:wrap64 ((k:Int)+1)=(k:Int)+1:=by have:=HBL.out;unfold wrap64;omega
    obtain⟨id,addr,wt⟩:=b
    simp only at c0 c1 c2 wb0 wb1
    obtain⟨M,hM⟩:∃ M,M=be (Go.Proofs.YtaopfagclnocdaaGreat.u64 gen) 4++be (Go.Proofs.YtaopfagclnocdaaGreat.u64 bks.length) 1++bksB v (bks.take k):=⟨_,rfl⟩
    have hML:M.length≤200:=by
     have:=bksB_length v (bks.take k)
     have:=HBL.out
     rw [hM];simp only [List.length_append,be_length,List.length_take] at *;omega
    have h3:=(hio.cells #[.int .i64 id,.int .u32 addr,.int .i64 wt] 108).sel2 (R1:=[_,_,_]) [1,2,0] (by decide) rfl
    rw [← hM] at h3
    have K2:=Lib.hid (k_u16 HL.out _ M id h3 (by omega))
    have HYB:=Lib.hid (fun w' l' (h':In F0 w0 w' (Cells w.heap.size (encRL ⟨3,⟨⟨src,dst,proto,sport,dport⟩,fbk,fgen,fseen⟩,gen,bks,bk,till,count⟩ (.slice (some ⟨g,o,none⟩) bks.length c)).toArray 45::WA bw l'::Cells wr.heap.size #[.int .i64 id,.int .u32 addr,.int .i64 wt] 108::R))=>(show w'.cell? ⟨wr.heap.size,1,none⟩=some (.int .u32 addr)∧w'.cell? ⟨wr.heap.size,2,none⟩=some (.int .i64 wt) from ⟨cell_of (h'.block 2 rfl) rfl,cell_of (h'.block 2 rfl) rfl⟩))
    have K3:=Lib.hid (fun w' (h':In F0 w0 w' (Cells w.heap.size (encRL ⟨3,⟨⟨src,dst,proto,sport,dport⟩,fbk,fgen,fseen⟩,gen,bks,bk,till,count⟩ (.slice (some ⟨g,o,none⟩) bks.length c)).toArray 45::WA bw (l++(M++be (Go.Proofs.YtaopfagclnocdaaGreat.u64 id) 2))::Cells wr.heap.size #[.int .i64 id,.int .u32 addr,.int .i64 wt] 108::R))=>k_u32 HL.out w' _ addr wb0 wb1 h' (by rw [List.length_append,be_length];omega))
    have K4:=Lib.hid (fun w' (h':In F0 w0 w' (Cells w.heap.size (encRL ⟨3,⟨⟨src,dst,proto,sport,dport⟩,fbk,fgen,fseen⟩,gen,bks,bk,till,count⟩ (.slice (some ⟨g,o,none⟩) bks.length c)).toArray 45::WA bw (l++(M++be (Go.Proofs.YtaopfagclnocdaaGreat.u64 id) 2++be (Go.Proofs.YtaopfagclnocdaaGreat.u64 addr) 4))::Cells wr.heap.size #[.int .i64 id,.int .u32 addr,.int .i64 wt] 108::R))=>k_u8 HL.out w' _ wt h' (by rw [List.length_append,List.length_append,be_length,be_length];omega))
    have HN:=Lib.hid (fun more w' hm' h'=>wb_step (F0:=F0) (w0:=w0) (w:=w') (R:=R) (bw:=bw) (b0:=w.heap.size) (C0:=(encRL ⟨3,⟨⟨src,dst,proto,sport,dport⟩,fbk,fgen,fseen⟩,gen,bks,bk,till,count⟩ (.slice (some ⟨g,o,none⟩) bks.length c)).toArray) (l:=l) (hd:=be (Go.Proofs.YtaopfagclnocdaaGreat.u64 gen) 4++be (Go.Proofs.YtaopfagclnocdaaGreat.u64 bks.length) 1) (more:=more) (v:=v) (bks:=bks) (nb:=wr.heap.size) (C:=#[.int .i64 id,.int .u32 addr,.int .i64 wt]) (ty:=108) hb hm' h')
    rw [← hM] at HN
    clear hio h3 hk hlt hb hM hML wb0 wb1
    by_cases v2:2≤v
    ·have HB:Hid (be (Go.Proofs.YtaopfagclnocdaaGreat.u64 id) 2++be (Go.Proofs.YtaopfagclnocdaaGreat.u64 addr) 4++be (Go.Proofs.YtaopfagclnocdaaGreat.u64 wt) 1=bkB v ⟨id,addr,wt⟩):=Lib.hid (by unfold bkB;rw [if_pos v2])
     go_wp2_with fail
     refine K2.out.mono ?_
     rintro e w3 ⟨rfl,g3⟩
     obtain⟨z1,z2⟩:=HYB.out w3 _ g3
     have K5:=Lib.hid (K3.out w3 g3)
     clear g3 K2 K3
     go_wp2_with fail
     refine K5.out.mono ?_
     rintro e w4 ⟨rfl,g4⟩
     clear z1 z2
     obtain⟨z1,z2⟩:=HYB.out w4 _ g4
     have K6:=Lib.hid (K4.out w4 g4)
     clear g4 K4 K5
     go_wp2_with fail
     refine K6.out.mono ?_
     rintro e w5 ⟨rfl,g5⟩
     have HN2:=Lib.hid (HN.out _ w5 HB.out (by simpa only [List.append_assoc] using g5))
     clear g5 K6 HN z1 z2
     go_wp2_with fail
     go_roundw
     case rel=>(try rw [hw2]);exact HN2.out
     case measure=>(try rw [hw2]);exact meas_lt hlt'
    ·have q2:decide (2≤v)=false:=decide_eq_false v2
     have HB:Hid (be (Go.Proofs.YtaopfagclnocdaaGreat.u64 id) 2++be (Go.Proofs.YtaopfagclnocdaaGreat.u64 addr) 4=bkB v ⟨id,addr,wt⟩):=Lib.hid (by unfold bkB;rw [if_neg v2,List.append_nil])
     clear v2
     go_wp2_with fail
     refine K2.out.mono ?_
     rintro e w3 ⟨rfl,g3⟩
     obtain⟨z1,z2⟩:=HYB.out w3 _ g3
     have K5:=Lib.hid (K3.out w3 g3)
     clear g3 K2 K3
     go_wp2_with fail
     refine K5.out.mono ?_
     rintro e w4 ⟨rfl,g4⟩
     have HN2:=Lib.hid (HN.out _ w4 HB.out (by simpa only [List.append_assoc] using g4))
     clear g4 K4 K5 HN z1 z2
     go_wp2_with fail
     go_roundw
     case rel=>(try rw [hw2]);exact HN2.out
     case measure=>(try rw [hw2]);exact meas_lt hlt'
   ·have hge:(bks.length:Int)≤(k:Int):=Int.ofNat_le.2 (Nat.le_of_not_lt hlt)
    have hkl:bks.take k=bks:=List.take_of_length_le (Nat.le_of_not_lt hlt)
    rw [hkl] at hio
    have G:=Lib.hid (wr_done HE.out hio)
    clear hio hkl hlt hk
    go_wp2_with fail
    go_end0
    exact G.out
 ·subst h1
  have HE:Hid (be (u64 bk) 2++be (u64 till) 8=recBody ⟨4,⟨⟨src,dst,proto,sport,dport⟩,fbk,fgen,fseen⟩,gen,bks,bk,till,count⟩ v):=Lib.hid rfl
  have HY:=Lib.hid (fun w' l' (h':In F0 w0 w' (Cells w.heap.size (encRL ⟨4,⟨⟨src,dst,proto,sport,dport⟩,fbk,fgen,fseen⟩,gen,bks,bk,till,count⟩ (.slice A bks.length c)).toArray 45::WA bw l'::R))=>(show w'.cell? ⟨w.heap.size,11,none⟩=some (.int .i64 bk)∧w'.cell? ⟨w.heap.size,12,none⟩=some (.int .i64 till) from ⟨cell_of (h'.block 0 rfl) rfl,cell_of (h'.block 0 rfl) rfl⟩))
  have K1:=Lib.hid (k_u16 HL.out _ [] bk H1.out (by decide))
  rw [List.nil_append] at K1
  clear H1 HTW wa wt hs h2 h3
  go_enter Tryz.func104,Tryz.ntmps104
  go_wp2_with fail
  refine K1.out.mono ?_
  rintro e w1 ⟨rfl,g1⟩
  obtain⟨y9,y10⟩:=HY.out w1 _ g1
  have G1:=Lib.hid g1
  clear g1 K1
  go_wp2_with fail
  refine (k_i64 HL.out w1 _ till G1.out (by rw [be_length];decide)).mono ?_
  rintro e w2 ⟨rfl,g2⟩
  have G:=Lib.hid (wr_done HE.out g2)
  clear g2 G1 y9 y10 HY
  go_wp2_with fail
  go_end0
  exact G.out
 ·subst h1
  have HE:Hid (be (u64 bk) 2=recBody ⟨5,⟨⟨src,dst,proto,sport,dport⟩,fbk,fgen,fseen⟩,gen,bks,bk,till,count⟩ v):=Lib.hid rfl
  have K1:=Lib.hid (k_u16 HL.out _ [] bk H1.out (by decide))
  rw [List.nil_append] at K1
  clear H1 HTW wa wt hs h2
  go_enter Tryz.func104,Tryz.ntmps104
  go_wp2_with fail
  refine K1.out.mono ?_
  rintro e w1 ⟨rfl,g1⟩
  have G:=Lib.hid (wr_done HE.out g1)
  clear g1 K1
  go_wp2_with fail
  go_end0
  exact G.out
 ·subst h1
  have hw:=u32_in h2.1 h2.2
  have HE:Hid (be (u64 count) 4=recBody ⟨6,⟨⟨src,dst,proto,sport,dport⟩,fbk,fgen,fseen⟩,gen,bks,bk,till,count⟩ v):=Lib.hid rfl
  have K1:=Lib.hid (k_u32 HL.out _ [] count h2.1 (by omega) H1.out (by decide))
  rw [List.nil_append] at K1
  clear H1 HTW wa wt hs h2
  go_enter Tryz.func104,Tryz.ntmps104
  go_wp2_with fail
  refine K1.out.mono ?_
  rintro e w1 ⟨rfl,g1⟩
  have G:=Lib.hid (wr_done HE.out g1)
  clear g1 K1
  go_wp2_with fail
  go_end0
  exact G.out
end
theorem results_cell_tmp_row {P:Program} {fn:Func} {p u:Tmp} {ty:TypeId} (h:fn.results=#[.cell p ty,.tmp u]) (tmps:Array Value) (w:World) (g:Nat) (t:TypeId) (cs:Array Value) (fr:Nat×Nat) (d:TypeDesc)
  (hp:tmps.getD p undef=.pointer (some ⟨g,0,none⟩)) (hg:w.heap[g]?=some (.cells cs t fr))
  (hu:P.underlying ty=some d) (hd:(match d with | .struct _ | .array _ _=>true | _=>false)=true) (hi:(P.info? ty).map (·.size)=some cs.size) :
  (results fn tmps).run P w=.ok (.tuple #[.agg cs,tmps.getD u undef]) w:=by
 rw [results_cell_tmp h,hp]
 simp [asAddr,run_loadVar_row w g t ty cs fr d hg hu hd hi,Result.andThen]
section
variable {F0:List Nat} {w0 w:World} {R:List Asrt}
def REncPost (r:FrD×Int) (F0:List Nat) (w0:World) (R:List Asrt) (e:Ending) (w':World):Prop:=
 ∃ v,e=.returned (.tuple #[.agg #[.int .i64 r.1.kind,.int .i64 r.1.ver,v],.int .i64 r.2])∧In F0 w0 w' (bodyA v r.1::R)
theorem o_rcenc {r:Rec} {A:Option Addr} {c:Nat} (v:Int) (hs:BksAt F0 w0 R A r.bks) (wr:WfR r) (hl:r.bks.length≤1000000) (h:In F0 w0 w R):Calls Tryz.prog 37 #[agR r A c,.int .i64 v] w (REncPost (encRec r v) F0 w0 R):=by
 have KV:=Lib.hid (rc_version v)
 cases hv:verOk v with
 | false=>
  have e:encRec r v=(zeroFr,10):=by unfold encRec;rw [if_pos hv]
  have HH:Hid (∀ o o2,In F0 w0 ((w.alloc o).alloc o2) (bodyA (.slice none 0 0) zeroFr::R)):=Lib.hid (fun o o2=>((h.alloc o).alloc o2).rownil 5 1)
  rw [e];rw [hv] at KV
  clear e h hs hl hv wr
  obtain⟨kind,⟨⟨src,dst,proto,sport,dport⟩,fbk,fgen,fseen⟩,gen,bks,bk,till,count⟩:=r
  go_enter Tryz.func37,Tryz.ntmps37
  go_wp2_with fail
  refine (KV.out _).mono ?_
  rintro e w1 ⟨rfl,rfl⟩
  clear KV
  go_wp2_with fail
  exact bodyPost_ret (results_cell_tmp_row Tryz.results37 _ _ (w.heap.size+1) 85 _ (0,0) _ rfl (heap_alloc2_new _ _ _) Tryz.underlying85 rfl (by kernel_rfl)) rfl ⟨.slice none 0 0,rfl,HH.out _ _⟩
 | true=>
  rw [hv] at KV
  have hv13:1≤v∧v≤3:=of_decide_eq_true hv
  obtain⟨C0,hC0⟩:∃ C,C=(encRL r (.slice A r.bks.length c)).toArray:=⟨_,rfl⟩
  have h2:In F0 w0 ((w.alloc (.cells C0 45)).alloc (.cells #[.int .i64 0,.int .i64 0,.slice none 0 0] 85)) (Cells (w.heap.size+1) #[.int .i64 0,.int .i64 0,.slice none 0 0] 85::Cells w.heap.size C0 45::R):=by
   have h2:=(h.cells C0 45).cells #[.int .i64 0,.int .i64 0,.slice none 0 0] 85
   simp only [World.size_alloc] at h2
   exact h2
  have KM:=Lib.hid (o_rcmay (c:=c) (fun w' h'=>hs w' h'.drop.drop) (Nat.le_trans hl (by decide)) h2)
  cases hm:mayRec r with
  | false=>
   have e:encRec r v=(zeroFr,1):=by unfold encRec;rw [if_neg (by simp [hv]),if_pos hm]
   rw [e];rw [hm] at KM
   clear e h h2 hs hl hv hv13 wr hm
   obtain⟨kind,⟨⟨src,dst,proto,sport,dport⟩,fbk,fgen,fseen⟩,gen,bks,bk,till,count⟩:=r
   subst hC0
   go_enter Tryz.func37,Tryz.ntmps37
   go_wp2_with fail
   refine (KV.out _).mono ?_
   rintro e w1 ⟨rfl,rfl⟩
   clear KV
   go_wp2_with fail
   refine KM.out.mono ?_
   rintro e w1 ⟨rfl,g1⟩
   have d0:w1.cell? ⟨w.heap.size+1,0,none⟩=some (.int .i64 0):=cell_of (g1.block 0 rfl) rfl
   have d1:w1.cell? ⟨w.heap.size+1,1,none⟩=some (.int .i64 0):=cell_of (g1.block 0 rfl) rfl
   have d2:w1.cell? ⟨w.heap.size+1,2,none⟩=some (.slice none 0 0):=cell_of (g1.block 0 rfl) rfl
   have f0:w1.frozen? ⟨w.heap.size+1,0,none⟩=false:=free_of (g1.block 0 rfl)
   have f1:w1.frozen? ⟨w.heap.size+1,1,none⟩=false:=free_of (g1.block 0 rfl)
   have f2:w1.frozen? ⟨w.heap.size+1,2,none⟩=false:=free_of (g1.block 0 rfl)
   have G:=Lib.hid (g1.setFull 0 rfl (xs:=[.int .i64 0,.int .i64 0,.slice none 0 0]) (b:=w.heap.size+1) (C:=#[.int .i64 0,.int .i64 0,.slice none 0 0]) (T:=85) rfl)
   clear g1 KM
   go_wp2_with fail
   exact bodyPost_ret (results_cell_tmp_row Tryz.results37 _ _ (w.heap.size+1) 85 _ (0,0) _ rfl (G.out.block 0 rfl) Tryz.underlying85 rfl (by kernel_rfl)) rfl ⟨.slice none 0 0,rfl,(G.out.drop.drop).rownil 5 1⟩
  | true=>
   have e:encRec r v=(⟨r.kind.toNat,v.toNat,recBody r v⟩,0):=by unfold encRec;rw [if_neg (by simp [hv]),if_neg (by simp [hm])]
   have hk:((r.kind.toNat:Nat):Int)=r.kind:=by
    have hm2:=hm
    rw [mayRec_iff] at hm2;apply Int.toNat_of_nonneg;omega
   have hvn:((v.toNat:Nat):Int)=v:=Int.toNat_of_nonneg (by omega)
   have hbl:=recBody_length v hm
   rw [e];rw [hm] at KM
   have KW:=Lib.hid (fun w' bw (h':In F0 w0 w' (WA bw []::Cells (w.heap.size+1) #[.int .i64 0,.int .i64 0,.slice none 0 0] 85::Cells w.heap.size C0 45::R))=>o_rcwrite (c:=c) (l:=[]) v (fun w' h'=>hs w' h'.drop.drop) wr hm (by decide) h')
   simp only [List.nil_append] at KW
   have HC0:Hid (C0[0]?=some (.int .i64 r.kind)):=Lib.hid (by rw [hC0];rfl)
   have HLD:Hid (∀ w':World,w'.heap[w.heap.size]?=some (.cells C0 45 (0,0))→w'.heap[w.heap.size]?=some (.cells (encRL r (.slice A r.bks.length c)).toArray 45 (0,0))):=Lib.hid fun w' h'=>by rw [h',hC0]
   have HB:Hid (∀ w' b (h':In F0 w0 w' (RowA 5 1 b (recBody r v).length (u8s (recBody r v))::Cells (w.heap.size+1) #[.int .i64 r.kind,.int .i64 v,b] 85::R)),REncPost (⟨r.kind.toNat,v.toNat,recBody r v⟩,0) F0 w0 R (.returned (.tuple #[.agg #[.int .i64 r.kind,.int .i64 v,b],.int .i64 0])) w'):=Lib.hid fun w' b h'=>⟨b,by simp only;rw [hk,hvn],h'.sel2 (R1:=[_,_]) [0] (by decide) rfl⟩
   have HBL:=Lib.hid hbl
   clear e h h2 hs hl hv hv13 wr hm hk hvn hbl
   generalize recBody r v=body at *
   obtain⟨kind,⟨⟨src,dst,proto,sport,dport⟩,fbk,fgen,fseen⟩,gen,bks,bk,till,count⟩:=r
   have hC1:=hC0
   subst hC0
   clear hC1
   go_enter Tryz.func37,Tryz.ntmps37
   go_wp2_with fail
   refine (KV.out _).mono ?_
   rintro e w1 ⟨rfl,rfl⟩
   clear KV
   go_wp2_with fail
   refine KM.out.mono ?_
   rintro e w1 ⟨rfl,g1⟩
   have g2:=w_new (g1.cells #[.slice none 0 0] 176)
   have K2:=Lib.hid (KW.out _ _ g2)
   have q0:(w1.alloc (.cells #[.slice none 0 0] 176)).heap[w.heap.size]?=some (.cells (encRL ⟨kind,⟨⟨src,dst,proto,sport,dport⟩,fbk,fgen,fseen⟩,gen,bks,bk,till,count⟩ (.slice A bks.length c)).toArray 45 (0,0)):=g2.block 2 rfl
   clear g1 g2 KM KW
   go_wp2_with (refine wpList_load_row rfl 45 (.tmp 2) rfl w.heap.size rfl 45 _ (0,0) _ q0 Tryz.underlying45 rfl (by kernel_rfl) ?_)
   refine K2.out.mono ?_
   rintro e w2 ⟨rfl,g3⟩
   have y0:w2.cell? ⟨w.heap.size,0,none⟩=some (.int .i64 kind):=cell_of (g3.block 2 rfl) rfl
   have HB3:=Lib.hid (fun w' (h':In F0 w0 w' (WA w1.heap.size body::Cells (w.heap.size+1) #[.int .i64 0,.int .i64 0,.slice none 0 0] 85::Cells w.heap.size (encRL ⟨kind,⟨⟨src,dst,proto,sport,dport⟩,fbk,fgen,fseen⟩,gen,bks,bk,till,count⟩ (.slice A bks.length c)).toArray 45::R))=>o_wbytes h' 0 rfl (Nat.le_trans HBL.out (by decide)))
   have HG3:=Lib.hid (fun n=>g3.drewN n)
   clear q0 K2 g3
   go_wp2_with fail
   go_region_held3 (fun w'=>w'.cell? ⟨w.heap.size,0,none⟩=some (.int .i64 kind)) (first | exact hz | exact y0 | go_keep)
    (first | (go_at_call 105;refine (HB3.out _ (HG3.out _)).mono ?_;rintro e w3 ⟨bv,rfl,g4⟩;have hz:w3.cell? ⟨w.heap.size,0,none⟩=some (.int .i64 kind):=cell_of (g4.block 3 rfl) rfl;have f0:w3.frozen? ⟨w.heap.size+1,0,none⟩=false:=free_of (g4.block 2 rfl);have f1:w3.frozen? ⟨w.heap.size+1,1,none⟩=false:=free_of (g4.block 2 rfl);have f2:w3.frozen? ⟨w.heap.size+1,2,none⟩=false:=free_of (g4.block 2 rfl);have d0:w3.cell? ⟨w.heap.size+1,0,none⟩=some (.int .i64 0):=cell_of (g4.block 2 rfl) rfl;have d1:w3.cell? ⟨w.heap.size+1,1,none⟩=some (.int .i64 0):=cell_of (g4.block 2 rfl) rfl;have d2:w3.cell? ⟨w.heap.size+1,2,none⟩=some (.slice none 0 0):=cell_of (g4.block 2 rfl) rfl;obtain⟨F4,r4⟩:=g4.get 0 rfl;obtain⟨ab,cb,rfl,-,-,-⟩:=RowA.shape r4;have G4:=Lib.hid g4;clear g4 r4))
   have g5:=G4.out.setFull 2 rfl (xs:=[.int .i64 kind,.int .i64 v,.slice ab body.length cb]) (b:=w.heap.size+1) (C:=#[.int .i64 0,.int .i64 0,.slice none 0 0]) (T:=85) rfl
   have G5:=Lib.hid g5
   have G6:=Lib.hid (HB.out _ _ (g5.sel2 (R1:=[_,_,_,_]) [0,2] (by decide) rfl))
   clear g5 G4
   go_wp2_with fail
   exact bodyPost_ret (results_cell_tmp_row Tryz.results37 _ _ (w.heap.size+1) 85 _ (0,0) _ rfl (G5.out.block 2 rfl) Tryz.underlying85 rfl (by kernel_rfl)) rfl G6.out
end
section
variable {F0:List Nat} {w0 w:World} {R:List Asrt} {br:Nat} {s:RdS}
abbrev RdB (br:Nat) (s:RdS):Asrt:=RdA br s.1 s.2
abbrev pR (br:Nat):Value:=.pointer (some ⟨br,0,none⟩)
def RNPost (v:Value) (br:Nat) (s:RdS) (F0:List Nat) (w0:World) (R:List Asrt) (e:Ending) (w':World):Prop:=e=.returned v∧In F0 w0 w' (RdB br s::R)
theorem k_r8 (h:In F0 w0 w (RdB br s::R)):Calls Tryz.prog 219 #[pR br] w (RNPost (.int .i64 (rdN 1 s)) br (rdS 1 s) F0 w0 R):=o_ru8 h 0 rfl
theorem k_r16 (h:In F0 w0 w (RdB br s::R)):Calls Tryz.prog 193 #[pR br] w (RNPost (.int .i64 (rdN 2 s)) br (rdS 2 s) F0 w0 R):=o_ru16 h 0 rfl
theorem k_r32 (h:In F0 w0 w (RdB br s::R)):Calls Tryz.prog 192 #[pR br] w (RNPost (.int .u32 (rdN 4 s)) br (rdS 4 s) F0 w0 R):=o_ru32 h 0 rfl
theorem k_r64 (h:In F0 w0 w (RdB br s::R)):Calls Tryz.prog 225 #[pR br] w (RNPost (.int .i64 (sig64 (rdN 8 s))) br (rdS 8 s) F0 w0 R):=o_ri64 h 0 rfl
def TRPost (r:Tup×Bool×RdS) (br:Nat) (F0:List Nat) (w0:World) (R:List Asrt) (e:Ending) (w':World):Prop:=e=.returned (.tuple #[.agg (encT r.1),.bool r.2.1])∧In F0 w0 w' (RdB br r.2.2::R)
theorem o_tread (h:In F0 w0 w (RdB br s::R)):Calls Tryz.prog 223 #[pR br] w (TRPost (rdTup s) br F0 w0 R):=by
 have h1:In F0 w0 (w.alloc (.cells (encT zeroT) 41)) (RdB br s::Cells w.heap.size (encT zeroT) 41::R):=(h.cells (encT zeroT) 41).sel2 (R1:=[_,_]) [1,0] (by decide) rfl
 have KL:=Lib.hid (o_rleft h1 0 rfl)
 by_cases h13:s.1.length < 13
 ·have e:rdTup s=(zeroT,false,rdS 13 s):=by unfold rdTup;rw [if_pos h13]
  have KR:=Lib.hid (o_rraw h1 0 rfl 13 (by decide))
  have q:((s.1.length:Nat):Int) < 13:=by omega
  have HS:Hid (∀ w',In F0 w0 w' (RdA br (rdTake s.1 s.2 13).2.1 (rdTake s.1 s.2 13).2.2::Cells w.heap.size (encT zeroT) 41::R)→In F0 w0 w' (RdB br (rdS 13 s)::Cells w.heap.size (encT zeroT) 41::R)):=Lib.hid fun w' h'=>h'
  rw [e]
  clear e h h1 h13
  go_enter Tryz.func223,Tryz.ntmps223
  go_wp2_with fail
  refine KL.out.mono ?_
  rintro e w1 ⟨rfl,rfl⟩
  clear KL
  go_wp2_with fail
  refine KR.out.mono ?_
  rintro e w1 ⟨v,rfl,g1⟩
  have g2:=HS.out w1 g1.drop
  have q1:=there_of (g2.block 1 rfl)
  have G:=Lib.hid (g2.setFull 1 rfl (xs:=(encT zeroT).toList) (b:=w.heap.size) (C:=encT zeroT) (T:=41) rfl)
  have Q1:=Lib.hid q1
  clear g1 g2 q1 KR HS
  go_wp2_with (refine wpList_store_mid (op:=⟨none,Op.store 41 (.tmp 2) (.tmp 12),_,_,_,_⟩) (by rfl) 41 (.tmp 2) (.tmp 12) rfl w.heap.size 0 (encT zeroT) (by rfl) (by rfl) Q1.out (by kernel_rfl) (encT_all _) ?_)
  exact bodyPost_ret (results_cell_tmp_row Tryz.results223 _ _ w.heap.size 41 _ (0,0) _ rfl (G.out.block 1 rfl) Tryz.underlying41 rfl (by kernel_rfl)) rfl ⟨rfl,G.out.sel2 (R1:=[_,_]) [0] (by decide) rfl⟩
 ·have q:decide (((s.1.length:Nat):Int) < 13)=false:=decide_eq_false (by omega)
  obtain⟨s1,hs1⟩:∃ x,x=rdS 4 s:=⟨_,rfl⟩
  obtain⟨s2,hs2⟩:∃ x,x=rdS 4 s1:=⟨_,rfl⟩
  obtain⟨s3,hs3⟩:∃ x,x=rdS 1 s2:=⟨_,rfl⟩
  obtain⟨s4,hs4⟩:∃ x,x=rdS 2 s3:=⟨_,rfl⟩
  obtain⟨s5,hs5⟩:∃ x,x=rdS 2 s4:=⟨_,rfl⟩
  obtain⟨a1,ha1⟩:∃ x,x=rdN 4 s:=⟨_,rfl⟩
  obtain⟨a2,ha2⟩:∃ x,x=rdN 4 s1:=⟨_,rfl⟩
  obtain⟨a3,ha3⟩:∃ x,x=rdN 1 s2:=⟨_,rfl⟩
  obtain⟨a4,ha4⟩:∃ x,x=rdN 2 s3:=⟨_,rfl⟩
  obtain⟨a5,ha5⟩:∃ x,x=rdN 2 s4:=⟨_,rfl⟩
  have ht:tupAt s=⟨a1,a2,a3,a4,a5⟩:=by unfold tupAt;rw [← hs1,← hs2,← hs3,← hs4,← ha1,← ha2,← ha3,← ha4,← ha5]
  have e:rdTup s=if MayT ⟨a1,a2,a3,a4,a5⟩ then (⟨a1,a2,a3,a4,a5⟩,true,s5) else (zeroT,false,s5):=by
   unfold rdTup;rw [if_neg h13,ht,← hs1,← hs2,← hs3,← hs4,← hs5]
  have K1:=k_r32 h1
  rw [← ha1,← hs1] at K1
  have HK1:=Lib.hid K1
  have HK2:Hid (∀ w' R',In F0 w0 w' (RdB br s1::R')→Calls Tryz.prog 192 #[pR br] w' (RNPost (.int .u32 a2) br s2 F0 w0 R')):=Lib.hid fun w' R' h'=>by rw [ha2,hs2];exact k_r32 h'
  have HK3:Hid (∀ w' R',In F0 w0 w' (RdB br s2::R')→Calls Tryz.prog 219 #[pR br] w' (RNPost (.int .i64 a3) br s3 F0 w0 R')):=Lib.hid fun w' R' h'=>by rw [ha3,hs3];exact k_r8 h'
  have HK4:Hid (∀ w' R',In F0 w0 w' (RdB br s3::R')→Calls Tryz.prog 193 #[pR br] w' (RNPost (.int .i64 a4) br s4 F0 w0 R')):=Lib.hid fun w' R' h'=>by rw [ha4,hs4];exact k_r16 h'
  have HK5:Hid (∀ w' R',In F0 w0 w' (RdB br s4::R')→Calls Tryz.prog 193 #[pR br] w' (RNPost (.int .i64 a5) br s5 F0 w0 R')):=Lib.hid fun w' R' h'=>by rw [ha5,hs5];exact k_r16 h'
  have KT:=Lib.hid (tmay_b ⟨a1,a2,a3,a4,a5⟩)
  rw [e]
  clear e h h1 h13 ht hs1 hs2 hs3 hs4 hs5 ha1 ha2 ha3 ha4 ha5 K1
  generalize ((a1:Nat):Int)=t1 at *
  generalize ((a2:Nat):Int)=t2 at *
  generalize ((a3:Nat):Int)=t3 at *
  generalize ((a4:Nat):Int)=t4 at *
  generalize ((a5:Nat):Int)=t5 at *
  by_cases hm:MayT ⟨t1,t2,t3,t4,t5⟩
  ·rw [if_pos hm]
   rw [decide_eq_true hm] at KT
   clear hm
   go_enter Tryz.func223,Tryz.ntmps223
   go_wp2_with fail
   refine KL.out.mono ?_
   rintro e w1 ⟨rfl,rfl⟩
   clear KL
   go_wp2_with fail
   refine HK1.out.mono ?_
   rintro e w1 ⟨rfl,g1⟩
   have G1:=Lib.hid (HK2.out w1 _ g1)
   clear g1 HK1 HK2
   go_wp2_with fail
   refine G1.out.mono ?_
   rintro e w2 ⟨rfl,g2⟩
   have G2:=Lib.hid (HK3.out w2 _ g2)
   clear g2 G1 HK3
   go_wp2_with fail
   refine G2.out.mono ?_
   rintro e w3 ⟨rfl,g3⟩
   have g4:=(g3.cells #[.int .u32 t1,.int .u32 t2,.int .i64 t3,.int .i64 0,.int .i64 0] 41).sel2 (R1:=[_,_,_]) [1,0,2] (by decide) rfl
   have G4:=Lib.hid (HK4.out _ _ g4)
   clear g3 g4 G2 HK4
   go_wp2_with fail
   refine G4.out.mono ?_
   rintro e w4 ⟨rfl,g5⟩
   have G5:=Lib.hid (HK5.out w4 _ g5)
   clear g5 G4 HK5
   go_wp2_with fail
   refine G5.out.mono ?_
   rintro e w5 ⟨rfl,g6⟩
   have f3:w5.frozen? ⟨w3.heap.size,3,none⟩=false:=free_of (g6.block 1 rfl)
   have f4:w5.frozen? ⟨w3.heap.size,4,none⟩=false:=free_of (g6.block 1 rfl)
   have d3:w5.cell? ⟨w3.heap.size,3,none⟩=some (.int .i64 0):=cell_of (g6.block 1 rfl) rfl
   have d4:w5.cell? ⟨w3.heap.size,4,none⟩=some (.int .i64 0):=cell_of (g6.block 1 rfl) rfl
   have g7:In F0 w0 ((w5.setCell ⟨w3.heap.size,3,none⟩ (.int .i64 t4)).setCell ⟨w3.heap.size,4,none⟩ (.int .i64 t5)) (RdB br s5::Cells w3.heap.size (encT ⟨t1,t2,t3,t4,t5⟩) 41::Cells w.heap.size (encT zeroT) 41::R):=by
    have g7:=In.setCs [.int .i64 t4,.int .i64 t5] 3 1 g6 (b:=w3.heap.size) (C:=#[.int .u32 t1,.int .u32 t2,.int .i64 t3,.int .i64 0,.int .i64 0]) (T:=41) rfl
    rw [setL_at (ys:=(encT ⟨t1,t2,t3,t4,t5⟩).toList) (by simp) (by simp)] at g7
    exact g7
   have q0:((w5.setCell ⟨w3.heap.size,3,none⟩ (.int .i64 t4)).setCell ⟨w3.heap.size,4,none⟩ (.int .i64 t5)).heap[w3.heap.size]?=some (.cells (encT ⟨t1,t2,t3,t4,t5⟩) 41 (0,0)):=g7.block 1 rfl
   have G7:=Lib.hid g7
   clear g6 g7 G5
   go_wp2_with (refine wpList_load_row rfl 41 (.tmp 6) rfl w3.heap.size rfl 41 _ (0,0) _ q0 Tryz.underlying41 rfl (by kernel_rfl) ?_)
   refine (KT.out _).mono ?_
   rintro e w6 ⟨rfl,rfl⟩
   clear KT f3 f4 d3 d4
   obtain⟨W,rfl,g8⟩:∃ W,W=(w5.setCell ⟨w3.heap.size,3,none⟩ (.int .i64 t4)).setCell ⟨w3.heap.size,4,none⟩ (.int .i64 t5)∧In F0 w0 (W.alloc (.cells (encT ⟨t1,t2,t3,t4,t5⟩) 41)) (RdB br s5::Cells w3.heap.size (encT ⟨t1,t2,t3,t4,t5⟩) 41::Cells w.heap.size (encT zeroT) 41::R):=⟨_,rfl,G7.out.alloc _⟩
   have q1:(((w5.setCell ⟨w3.heap.size,3,none⟩ (.int .i64 t4)).setCell ⟨w3.heap.size,4,none⟩ (.int .i64 t5)).alloc (.cells (encT ⟨t1,t2,t3,t4,t5⟩) 41)).heap[w3.heap.size]?=some (.cells (encT ⟨t1,t2,t3,t4,t5⟩) 41 (0,0)):=g8.block 1 rfl
   have Q2:=Lib.hid (there_of (g8.block 2 rfl))
   have G8:=Lib.hid (g8.setFull 2 rfl (xs:=(encT ⟨t1,t2,t3,t4,t5⟩).toList) (b:=w.heap.size) (C:=encT zeroT) (T:=41) rfl)
   clear g8 q0
   go_wp2_with (refine wpList_load_row rfl 41 (.tmp 6) rfl w3.heap.size rfl 41 _ (0,0) _ q1 Tryz.underlying41 rfl (by kernel_rfl) ?_;refine wpList_store_mid (op:=⟨none,Op.store 41 (.tmp 2) (.tmp 34),_,_,_,_⟩) (by rfl) 41 (.tmp 2) (.tmp 34) rfl w.heap.size 0 (encT ⟨t1,t2,t3,t4,t5⟩) (by rfl) (by rfl) Q2.out (by kernel_rfl) (encT_all _) ?_)
   exact bodyPost_ret (results_cell_tmp_row Tryz.results223 _ _ w.heap.size 41 _ (0,0) _ rfl (G8.out.block 2 rfl) Tryz.underlying41 rfl (by kernel_rfl)) rfl ⟨rfl,G8.out.sel2 (R1:=[_,_,_]) [0] (by decide) rfl⟩
  ·rw [if_neg hm]
   rw [decide_eq_false hm] at KT
   clear hm
   go_enter Tryz.func223,Tryz.ntmps223
   go_wp2_with fail
   refine KL.out.mono ?_
   rintro e w1 ⟨rfl,rfl⟩
   clear KL
   go_wp2_with fail
   refine HK1.out.mono ?_
   rintro e w1 ⟨rfl,g1⟩
   have G1:=Lib.hid (HK2.out w1 _ g1)
   clear g1 HK1 HK2
   go_wp2_with fail
   refine G1.out.mono ?_
   rintro e w2 ⟨rfl,g2⟩
   have G2:=Lib.hid (HK3.out w2 _ g2)
   clear g2 G1 HK3
   go_wp2_with fail
   refine G2.out.mono ?_
   rintro e w3 ⟨rfl,g3⟩
   have g4:=(g3.cells #[.int .u32 t1,.int .u32 t2,.int .i64 t3,.int .i64 0,.int .i64 0] 41).sel2 (R1:=[_,_,_]) [1,0,2] (by decide) rfl
   have G4:=Lib.hid (HK4.out _ _ g4)
   clear g3 g4 G2 HK4
   go_wp2_with fail
   refine G4.out.mono ?_
   rintro e w4 ⟨rfl,g5⟩
   have G5:=Lib.hid (HK5.out w4 _ g5)
   clear g5 G4 HK5
   go_wp2_with fail
   refine G5.out.mono ?_
   rintro e w5 ⟨rfl,g6⟩
   have f3:w5.frozen? ⟨w3.heap.size,3,none⟩=false:=free_of (g6.block 1 rfl)
   have f4:w5.frozen? ⟨w3.heap.size,4,none⟩=false:=free_of (g6.block 1 rfl)
   have d3:w5.cell? ⟨w3.heap.size,3,none⟩=some (.int .i64 0):=cell_of (g6.block 1 rfl) rfl
   have d4:w5.cell? ⟨w3.heap.size,4,none⟩=some (.int .i64 0):=cell_of (g6.block 1 rfl) rfl
   have g7:In F0 w0 ((w5.setCell ⟨w3.heap.size,3,none⟩ (.int .i64 t4)).setCell ⟨w3.heap.size,4,none⟩ (.int .i64 t5)) (RdB br s5::Cells w3.heap.size (encT ⟨t1,t2,t3,t4,t5⟩) 41::Cells w.heap.size (encT zeroT) 41::R):=by
    have g7:=In.setCs [.int .i64 t4,.int .i64 t5] 3 1 g6 (b:=w3.heap.size) (C:=#[.int .u32 t1,.int .u32 t2,.int .i64 t3,.int .i64 0,.int .i64 0]) (T:=41) rfl
    rw [setL_at (ys:=(encT ⟨t1,t2,t3,t4,t5⟩).toList) (by simp) (by simp)] at g7
    exact g7
   have q0:((w5.setCell ⟨w3.heap.size,3,none⟩ (.int .i64 t4)).setCell ⟨w3.heap.size,4,none⟩ (.int .i64 t5)).heap[w3.heap.size]?=some (.cells (encT ⟨t1,t2,t3,t4,t5⟩) 41 (0,0)):=g7.block 1 rfl
   have G7:=Lib.hid g7
   clear g6 g7 G5
   go_wp2_with (refine wpList_load_row rfl 41 (.tmp 6) rfl w3.heap.size rfl 41 _ (0,0) _ q0 Tryz.underlying41 rfl (by kernel_rfl) ?_)
   refine (KT.out _).mono ?_
   rintro e w6 ⟨rfl,rfl⟩
   clear KT f3 f4 d3 d4
   obtain⟨W,rfl,g8⟩:∃ W,W=(w5.setCell ⟨w3.heap.size,3,none⟩ (.int .i64 t4)).setCell ⟨w3.heap.size,4,none⟩ (.int .i64 t5)∧In F0 w0 (W.alloc (.cells (encT ⟨t1,t2,t3,t4,t5⟩) 41)) (RdB br s5::Cells w3.heap.size (encT ⟨t1,t2,t3,t4,t5⟩) 41::Cells w.heap.size (encT zeroT) 41::R):=⟨_,rfl,G7.out.alloc _⟩
   have Q2:=Lib.hid (there_of (g8.block 2 rfl))
   have G8:=Lib.hid (g8.setFull 2 rfl (xs:=(encT zeroT).toList) (b:=w.heap.size) (C:=encT zeroT) (T:=41) rfl)
   clear g8 q0
   go_wp2_with (refine wpList_store_mid (op:=⟨none,Op.store 41 (.tmp 2) (.tmp 33),_,_,_,_⟩) (by rfl) 41 (.tmp 2) (.tmp 33) rfl w.heap.size 0 (encT zeroT) (by rfl) (by rfl) Q2.out (by kernel_rfl) (encT_all _) ?_)
   exact bodyPost_ret (results_cell_tmp_row Tryz.results223 _ _ w.heap.size 41 _ (0,0) _ rfl (G8.out.block 2 rfl) Tryz.underlying41 rfl (by kernel_rfl)) rfl ⟨rfl,G8.out.sel2 (R1:=[_,_,_]) [0] (by decide) rfl⟩
end
end Go.Proofs.YtaopfagclnocdaaGreat
