/- Rows.CompactBoundsSaid -/
import Derived.Test.YtaopfagclnocdaaGreatCU35
import Derived.Test.YtaopfagclnocdaaGreatCU36
import Derived.Test.YtaopfagclnocdaaGreatCU33
import Derived.Test.YtaopfagclnocdaaGreatCU10
import Derived.Test.YtaopfagclnocdaaGreatCU32
import Derived.Deep.RegionHeld3
import Derived.LoopTactic
import Derived.StillTailTactics
namespace Go.Proofs.YtaopfagclnocdaaGreat
open Go.RowKit
set_option linter.unusedVariables false
set_option maxHeartbeats 64000000
set_option maxRecDepth 100000
section
variable {F0:List Nat} {w0 w:World} {R:List Asrt} {bd lb:Nat} {d:DiskD} {l:LogD}
theorem o_lgsegs (hl:LgOk l) (h:In F0 w0 w (LgA lb bd l::R)):Calls Tryz.prog 50 #[dptr lb] w fun e w'=>∃ a c,e=.returned (.slice a l.m.segs.length c)∧In F0 w0 w' (IntsR (.slice a l.m.segs.length c) l.m.segs::LgA lb bd l::R):=by
 obtain⟨a,c,h1⟩:=h.lgOpen
 have c4:w.cell? ⟨lb,4,none⟩=some (.slice a l.m.segs.length c):=cell_of (h1.block 1 rfl) rfl
 obtain⟨F1,r1⟩:=h1.get 0 rfl
 have hn:=(mayM_iff.1 hl.2.2).1.2.2.2.1
 have K:=Lib.hid (o_iclone h (fun e=>RowA.noc r1 e) r1.all (by omega))
 clear h h1 r1
 go_enter Tryz.func50,Tryz.ntmps50
 go_wp2_with fail
 refine K.out.mono ?_
 rintro e w1 ⟨a',c',rfl,g⟩
 have G:=Lib.hid g
 clear g K c4
 go_wp2_with fail
 go_ret
 exact⟨_,_,rfl,G.out⟩
def SizeRelL (lb bd:Nat) (l:LogD) (d:DiskD) (a:Option Addr) (c:Nat) (F0:List Nat) (w0:World) (R:List Asrt) (n i:Value) (wr:World):Prop:=
 ∃ k:Nat,k≤l.m.segs.length∧i=.int .i64 k∧n=.int .i64 (((l.m.segs.take k).map (fun x=>bytesD d (segName x))).sum:Nat)∧In F0 w0 wr (LgA lb bd l::DkA bd d::IntsR (.slice a l.m.segs.length c) l.m.segs::R)
theorem bytesD_most {d:DiskD} (h:DiskOk d) (n:ByteArray):bytesD d n≤1048576:=by
 unfold bytesD dRead
 cases e:nmAt d.now n with
 | none=>simp
 | some i=>simp only [Option.map_some,Option.getD_some];exact (h.file _ (getD_mem (h.at e))).1
theorem sum_le_mul {α:Type} {f:α→Nat} {b:Nat} (h:∀ x,f x≤b):∀ L:List α,(L.map f).sum≤L.length * b
 | []=>by simp
 | x::L=>by
  have h1:=h x
  have h2:=sum_le_mul h L
  rw [List.map_cons,List.sum_cons,List.length_cons,Nat.succ_mul]
  omega
theorem o_lgsize (hl:LgOk l) (h:In F0 w0 w (LgA lb bd l::DkA bd d::R)):Calls Tryz.prog 145 #[dptr lb] w fun e w'=>e=.returned (.int .i64 (sizeL (d,l)))∧In F0 w0 w' (LgA lb bd l::DkA bd d::R):=by
 have hdk:DiskOk d:=by
  obtain⟨F,hF⟩:=h.get 1 rfl
  exact hF.1
 have hn:=(mayM_iff.1 hl.2.2).1.2.2.2.1
 have hsg:∀ x∈l.m.segs,x < 4611686018427387904:=fun x hx=>by have:=(mayM_seg hl.2.2 hx).2.2;omega
 have K:=Lib.hid (o_lgsegs hl h)
 clear h
 have HD:=Lib.hid hdk
 have HS:=Lib.hid hsg
 clear hdk hsg
 go_enter Tryz.func145,Tryz.ntmps145
 go_wp2_with fail
 refine K.out.mono ?_
 rintro e w1 ⟨a,c,rfl,g⟩
 have HR:Hid (SizeRelL lb bd l d a c F0 w0 R (.int .i64 0) (.int .i64 0) w1):=Lib.hid ⟨0,Nat.zero_le _,rfl,rfl,g.sel2 (R1:=[_,_,_]) [1,2,0] (by decide) rfl⟩
 clear g K
 go_wp2_with fail
 go_loopw [3,9] (SizeRelL lb bd l d a c F0 w0 R) (fun _ k _=>l.m.segs.length - (intOf k).toNat)
 case atStart=>exact HR.out
 case round=>
  obtain⟨k,hk,rfl,rfl,hio⟩:=hrel
  clear HR
  by_cases hlt:k < l.m.segs.length
  ·obtain⟨x,hx⟩:∃ x,l.m.segs[k]?=some x:=⟨l.m.segs[k],List.getElem?_eq_getElem hlt⟩
   obtain⟨F2,r2⟩:=hio.get 2 rfl
   obtain⟨g1,o1,rfl,s1⟩:=r2.all.plain (by omega) (by decide)
   have c0:=s1 k _ (segV_ix hx)
   have hlt':(k:Int) < (l.m.segs.length:Int):=Int.ofNat_lt.2 hlt
   have hw2:wrap64 ((k:Int)+1)=(k:Int)+1:=by unfold wrap64;omega
   have hb:=bytesD_most HD.out (segName x)
   have hsum:((l.m.segs.take k).map (fun x=>bytesD d (segName x))).sum≤64 * 1048576:=by
    refine Nat.le_trans (sum_le_mul (bytesD_most HD.out <| segName ·) _) (Nat.mul_le_mul_right _ ?_)
    rw [List.length_take];omega
   have hst:((l.m.segs.take (k+1)).map (fun x=>bytesD d (segName x))).sum=((l.m.segs.take k).map (fun x=>bytesD d (segName x))).sum+bytesD d (segName x):=by
    rw [List.take_add_one,hx];simp
   have hw3:wrap64 (((((l.m.segs.take k).map (fun x=>bytesD d (segName x))).sum:Nat):Int)+(bytesD d (segName x):Int))=((((l.m.segs.take (k+1)).map (fun x=>bytesD d (segName x))).sum:Nat):Int):=by
    rw [hst];unfold wrap64;omega
   have K1:=Lib.hid (o_name hio x (HS.out x (List.mem_of_getElem? hx)))
   have K2:=Lib.hid (fun w' (h':In F0 w0 w' (LgA lb bd l::DkA bd d::IntsR (.slice (some ⟨g1,o1,none⟩) l.m.segs.length c) l.m.segs::R))=>o_bytes h' (segName x) (segName_size x))
   have HKK:Hid (k+1≤l.m.segs.length):=Lib.hid hlt
   have HM:=Lib.hid (meas_lt hlt')
   clear hio hx hlt hk r2 s1 hb hsum hst
   generalize segName x=nm at *
   generalize ((l.m.segs.take k).map (fun x=>bytesD d (segName x))).sum=S0 at *
   generalize hS1:((l.m.segs.take (k+1)).map (fun x=>bytesD d (segName x))).sum=S1 at *
   have HS1:=Lib.hid hS1
   clear hS1
   go_wp2_with fail
   refine K1.out.mono ?_
   rintro e w2 ⟨rfl,g2⟩
   have K3:=Lib.hid (K2.out w2 g2)
   clear g2 K1 K2 c0
   go_wp2_with fail
   refine K3.out.mono ?_
   rintro e w3 ⟨rfl,g3⟩
   have HR:Hid (SizeRelL lb bd l d (some ⟨g1,o1,none⟩) c F0 w0 R (.int .i64 S1) (.int .i64 ((k:Int)+1)) w3):=Lib.hid ⟨k+1,HKK.out,by rw [Int.natCast_add];rfl,by rw [HS1.out],g3⟩
   clear g3 K3
   go_wp2_with fail
   go_roundw
   case rel=>(try rw [hw3]);(try rw [hw2]);exact HR.out
   case measure=>(try rw [hw2]);exact HM.out
  ·have hge:(l.m.segs.length:Int)≤(k:Int):=Int.ofNat_le.2 (Nat.le_of_not_lt hlt)
   have G:Hid (In F0 w0 wr (LgA lb bd l::DkA bd d::R)):=Lib.hid (hio.sel2 (R1:=[_,_,_]) [0,1] (by decide) rfl)
   have HE:Hid (((l.m.segs.take k).map (fun x=>bytesD d (segName x))).sum=sizeL (d,l)):=Lib.hid (by rw [List.take_of_length_le (Nat.le_of_not_lt hlt)];rfl)
   clear hio hlt hk
   go_wp2_with fail
   go_ret
   exact⟨by rw [← HE.out];rfl,G.out⟩
end
section
variable {F0:List Nat} {w0 w:World} {R:List Asrt} {bd lb:Nat} {d:DiskD} {l:LogD}
def CleanRel (lb bd:Nat) (l:LogD) (d:DiskD) (a:Option Addr) (c:Nat) (F0:List Nat) (w0:World) (R:List Asrt) (n i:Value) (wr:World):Prop:=
 ∃ (k:Nat) (z:Int),k≤d.now.length∧i=.int .i64 k∧n=.int .i64 z∧In F0 w0 wr (LgA lb bd l::DkA bd (cleanD l ((dNames d).take k) d)::NmRowA (.slice a d.now.length c) d.now::R)
end
theorem created {v size:Int} {d:DiskD}:((createD v size d).2.1=none→(createD v size d).2.2≠0)∧(∀ l,(createD v size d).2.1=some l→(createD v size d).2.2=0):=by
 unfold createD
 by_cases h1:v < 1∨3 < v
 ·rw [if_pos h1];exact⟨fun _=>by simp,fun l h=>by cases h⟩
 rw [if_neg h1]
 by_cases h2:(nmAt d.now nmHead).isSome=true
 ·rw [if_pos h2];exact⟨fun _=>by simp,fun l h=>by cases h⟩
 rw [if_neg h2]
 simp only
 split
 ·rename_i h3;exact⟨fun _=>h3,fun l h=>by cases h⟩
 ·exact⟨(fun h=>by cases h),fun l h=>rfl⟩
section
variable {F0:List Nat} {w0 w:World} {R:List Asrt} {bd:Nat} {d:DiskD}
def SoCrPost (bd:Nat) (r:DiskD×Option StoreD×Int) (F0:List Nat) (w0:World) (R:List Asrt) (e:Ending) (w':World):Prop:=
 match r.2.1 with
 | none=>e=.returned (.tuple #[.pointer none,.int .i64 r.2.2])∧In F0 w0 w' (DkA bd r.1::R)
 | some so=>∃ sb lb stb,e=.returned (.tuple #[pR sb,.int .i64 r.2.2])∧In F0 w0 w' (SoL sb lb bd stb (r.1,so) R)
theorem o_socreate (h:In F0 w0 w (DkA bd d::R)) (ho:d.ops≤99999000) (v size:Int):Calls Tryz.prog 8 #[dptr bd,.int .i64 v,.int .i64 size] w (SoCrPost bd (createS v size d) F0 w0 R):=by
 have K1:=Lib.hid (o_create h ho v size)
 obtain⟨hn,hs⟩:=created (v:=v) (size:=size) (d:=d)
 have hP:∀ e w',CreatePost bd (createD v size d) F0 w0 R e w'→((createD v size d).2.1=none∧e=.returned (.tuple #[.pointer none,.int .i64 (createD v size d).2.2])∧In F0 w0 w' (DkA bd (createD v size d).1::R))∨(∃ l lb,(createD v size d).2.1=some l∧e=.returned (.tuple #[dptr lb,.int .i64 0])∧In F0 w0 w' (LgA lb bd l::DkA bd (createD v size d).1::R)):=by
  intro e w' hp
  unfold CreatePost at hp
  cases ec:(createD v size d).2.1 with
  | none=>rw [ec] at hp;exact Or.inl ⟨rfl,hp.1,hp.2⟩
  | some l=>
   rw [ec] at hp
   obtain⟨lb,g1,g2⟩:=hp
   rw [hs l ec] at g1
   exact Or.inr ⟨l,lb,rfl,g1,g2⟩
 have HP:=Lib.hid hP
 have HN:=Lib.hid hn
 have hC:∀ x,(createD v size d).2.1=x→createS v size d=match x with | none=>((createD v size d).1,none,(createD v size d).2.2) | some l=>((createD v size d).1,some ⟨l,zeroSt,zeroSt⟩,0):=by
  intro x hx;unfold createS;rw [hx];cases x <;> rfl
 have HC:=Lib.hid hC
 clear h hn hs hP hC
 go_enter Tryz.func8,Tryz.ntmps8
 go_wp2_with fail
 refine K1.out.mono ?_
 intro e w1 hp
 rcases HP.out e w1 hp with ⟨e1,rfl,g⟩|⟨l,lb,e1,rfl,g⟩
 ·have hne:=HN.out e1
  have q:((createD v size d).2.2 != 0)=true:=by rw [bne_iff_ne];exact hne
  have q2:decide ((createD v size d).2.2=0)=false:=decide_eq_false hne
  have G:Hid (SoCrPost bd (createS v size d) F0 w0 R (.returned (.tuple #[.pointer none,.int .i64 (createD v size d).2.2])) w1):=Lib.hid (by rw [HC.out none e1];exact⟨rfl,g⟩)
  clear g hp K1 HP HC hne HN e1
  generalize (createD v size d).2.2=er at *
  go_wp2_with fail
  go_ret2
  exact G.out
 ·have K2:=Lib.hid (o_stnew g)
  have E1:=Lib.hid e1
  clear g hp K1 HP HN e1
  go_wp2_with fail
  refine K2.out.mono ?_
  rintro e w2 ⟨stb,rfl,g2⟩
  have g3:=g2.cells #[dptr lb,pR stb,.int .i64 0,.slice none 0 0,.slice none 0 0,.slice none 0 0] 82
  have d1:(w2.alloc (.cells #[dptr lb,pR stb,.int .i64 0,.slice none 0 0,.slice none 0 0,.slice none 0 0] 82)).cell? ⟨w2.heap.size,1,none⟩=some (pR stb):=cell_of (g3.block 0 rfl) rfl
  have K3:=Lib.hid (o_stview' (g3.sel2 (R1:=[_,_]) [1,0] (by decide) rfl))
  clear g2 g3 K2
  go_wp2_with fail
  refine K3.out.mono ?_
  rintro e w3 ⟨A1,a1,D1,e1',F1,f1,rfl,g4⟩
  have Q1:=Lib.hid (there_at (g4.block 4 rfl) 2 4 (Nat.le_refl 6))
  have g5:=g4.setCs [.int .i64 zeroSt.gen,.slice A1 zeroSt.bks.length a1,.slice D1 zeroSt.drs.length e1',.slice F1 zeroSt.fls.length f1] 2 (b:=w2.heap.size) (T:=82) (C:=#[dptr lb,pR stb,.int .i64 0,.slice none 0 0,.slice none 0 0,.slice none 0 0]) 4 rfl
  have G:Hid (SoCrPost bd (createS v size d) F0 w0 R (.returned (.tuple #[pR w2.heap.size,.int .i64 0])) (w3.setCells w2.heap.size 2 [.int .i64 zeroSt.gen,.slice A1 zeroSt.bks.length a1,.slice D1 zeroSt.drs.length e1',.slice F1 zeroSt.fls.length f1])):=Lib.hid (by
   rw [HC.out _ E1.out]
   exact⟨_,_,_,rfl,In.soClose (s:=zeroSt) (lb:=lb) (stb:=stb) (g5.sel2 (R1:=[_,_,_,_,_,_,_]) (R2:=R) [4,0,1,2,5,6,3] (by decide) rfl)⟩)
  clear g4 g5 K3 d1 HC
  go_wp2_with (refine wpList_store_mid (op:=⟨none,Op.store 36 (.tmp 32) (.tmp 30),_,_,_,_⟩) (by rfl) 36 (.tmp 32) (.tmp 30) rfl w2.heap.size 2 #[.int .i64 zeroSt.gen,.slice A1 zeroSt.bks.length a1,.slice D1 zeroSt.drs.length e1',.slice F1 zeroSt.fls.length f1] (by rfl) (by rfl) Q1.out (by kernel_rfl) (st4_all2 _ _ _ _ _ _ _ _ _ _) ?_)
  go_ret2
  exact G.out
end
section
variable {F0:List Nat} {w0 w:World} {R:List Asrt} {bd:Nat} {d:DiskD}
end
section
variable {F0:List Nat} {w0 w:World} {R:List Asrt} {sb lb bd stb:Nat}
theorem BksAt.moreL {A:Option Addr} {l:List Bk}:∀ (X:List Asrt),BksAt F0 w0 R A l→BksAt F0 w0 (X++R) A l
 | [],h=>h
 | Y::X,h=>fun w' h'=>BksAt.moreL X h w' h'.drop
theorem sw_of {k src dst proto sport dport fbk fgen fseen gen bk till count:Int} {bks:List Bk} {A:Option Addr} {c:Nat} {g:Nat} {W:World} {y:Int} {v1 v2 v3:Value} (h1:W.heap[sb]?=some (.cells (soC lb stb y v1 v2 v3) 82 (0,0))) (h2:W.heap[g]?=some (.cells #[.int .i64 k,.int .u32 src,.int .u32 dst,.int .i64 proto,.int .i64 sport,.int .i64 dport,.int .i64 fbk,.int .i64 fgen,.int .i64 fseen,.int .i64 gen,.slice A bks.length c,.int .i64 bk,.int .i64 till,.int .i64 count] 45 (0,0))):W.cell? ⟨sb,0,none⟩=some (dptr lb)∧W.cell? ⟨sb,1,none⟩=some (pR stb)∧W.cell? ⟨g,0,none⟩=some (.int .i64 k)∧W.cell? ⟨g,1,none⟩=some (.int .u32 src)∧W.cell? ⟨g,2,none⟩=some (.int .u32 dst)∧W.cell? ⟨g,3,none⟩=some (.int .i64 proto)∧W.cell? ⟨g,4,none⟩=some (.int .i64 sport)∧W.cell? ⟨g,5,none⟩=some (.int .i64 dport)∧W.cell? ⟨g,6,none⟩=some (.int .i64 fbk)∧W.cell? ⟨g,7,none⟩=some (.int .i64 fgen)∧W.cell? ⟨g,8,none⟩=some (.int .i64 fseen)∧W.cell? ⟨g,9,none⟩=some (.int .i64 gen)∧W.cell? ⟨g,10,none⟩=some (.slice A bks.length c)∧W.cell? ⟨g,11,none⟩=some (.int .i64 bk)∧W.cell? ⟨g,12,none⟩=some (.int .i64 till)∧W.cell? ⟨g,13,none⟩=some (.int .i64 count):=
 ⟨cell_of h1 rfl,cell_of h1 rfl,cell_of h2 rfl,cell_of h2 rfl,cell_of h2 rfl,cell_of h2 rfl,cell_of h2 rfl,cell_of h2 rfl,cell_of h2 rfl,cell_of h2 rfl,cell_of h2 rfl,cell_of h2 rfl,cell_of h2 rfl,cell_of h2 rfl,cell_of h2 rfl,cell_of h2 rfl⟩
theorem writeS_bad {r:Rec} {s:SD} (h:mayRec r=false∨r.kind=6):writeS r s=(s,1):=by unfold writeS;rw [if_pos h]
theorem writeS_no {r:Rec} {s:SD} (h1:mayRec r=true) (h2:r.kind≠6) (h3:(applySt s.2.st r).2≠0):writeS r s=(s,(applySt s.2.st r).2):=by
 unfold writeS;rw [if_neg (by simp [h1,h2]),if_pos h3]
theorem writeS_fail {r:Rec} {s:SD} (h1:mayRec r=true) (h2:r.kind≠6) (h3:(applySt s.2.st r).2=0) (h4:(writeE r s).2=0) (h5:(writeA r s).2≠0):writeS r s=(((writeA r s).1.1,⟨(writeA r s).1.2,s.2.st,s.2.sure⟩),(writeA r s).2):=by
 unfold writeS;rw [if_neg (by simp [h1,h2]),if_neg (by simp [h3]),if_neg (by simp [h4]),if_pos h5]
theorem writeS_done {r:Rec} {s:SD} (h1:mayRec r=true) (h2:r.kind≠6) (h3:(applySt s.2.st r).2=0) (h4:(writeE r s).2=0) (h5:(writeA r s).2=0):writeS r s=(((writeA r s).1.1,⟨(writeA r s).1.2,(applySt s.2.st (inRec r (writeA r s).1.2.m.ver)).1,s.2.sure⟩),(applySt s.2.st (inRec r (writeA r s).1.2.m.ver)).2):=by
 unfold writeS;rw [if_neg (by simp [h1,h2]),if_neg (by simp [h3]),if_neg (by simp [h4]),if_neg (by simp [h5])]
theorem fq_of {g:Nat} {W:World} {y:Int} {v1 v2 v3 a b e:Value} (h1:W.heap[sb]?=some (.cells (soC lb stb y v1 v2 v3) 82 (0,0))) (h2:W.heap[g]?=some (.cells #[a,b,e] 85 (0,0))):W.cell? ⟨sb,0,none⟩=some (dptr lb)∧W.cell? ⟨g,0,none⟩=some a∧W.cell? ⟨g,2,none⟩=some e:=⟨cell_of h1 rfl,cell_of h2 rfl,cell_of h2 rfl⟩
theorem inRec_bks (r:Rec) (v:Int):(inRec r v).bks.length≤r.bks.length:=by
 unfold inRec
 split
 ·simp [zeroRec]
 ·simp only [List.length_map]
  unfold plainRec
  repeat' split
  all_goals simp
def WCut (r:Rec) (fr:FrD) (g sb lb bd stb:Nat) (A:Option Addr) (c:Nat) (s:SD) (X:Option Addr) (x:Nat) (D:Option Addr) (d:Nat) (F:Option Addr) (f:Nat) (F0:List Nat) (w0:World) (R:List Asrt) (x6 x7:Value) (wx:World):Prop:=
 ∃ fb v,x6=pR fb∧x7=.int .i64 0∧In F0 w0 wx (Cells fb #[.int .i64 fr.kind,.int .i64 fr.ver,v] 85::bodyA v fr::StA stb s.2.st::Cells g (encRL r (.slice A r.bks.length c)).toArray 45::Cells sb (soC lb stb s.2.sure.gen (.slice X s.2.sure.bks.length x) (.slice D s.2.sure.drs.length d) (.slice F s.2.sure.fls.length f)) 82::BkR (.slice X s.2.sure.bks.length x) s.2.sure.bks::DrR (.slice D s.2.sure.drs.length d) s.2.sure.drs::FlR (.slice F s.2.sure.fls.length f) s.2.sure.fls::LgA lb bd s.2.l::DkA bd s.1::R)
theorem o_sowrite0 {k src dst proto sport dport fbk fgen fseen gen bk till count:Int} {bks:List Bk} {A:Option Addr} {c:Nat} {s:SD} (hl:LgOk s.2.l) (ho:s.1.ops≤99990000) (hs:BksAt F0 w0 R A bks) (hn:A=none→c=0) (hb:bks.length≤1000000) (wr:WfR ⟨k,⟨⟨src,dst,proto,sport,dport⟩,fbk,fgen,fseen⟩,gen,bks,bk,till,count⟩) (h:In F0 w0 w (SoL sb lb bd stb s R)) :
  Calls Tryz.prog 9 #[pR sb,agR ⟨k,⟨⟨src,dst,proto,sport,dport⟩,fbk,fgen,fseen⟩,gen,bks,bk,till,count⟩ A c] w fun e w'=>e=.returned (.int .i64 (writeS ⟨k,⟨⟨src,dst,proto,sport,dport⟩,fbk,fgen,fseen⟩,gen,bks,bk,till,count⟩ s).2)∧In F0 w0 w' (SoL sb lb bd stb (writeS ⟨k,⟨⟨src,dst,proto,sport,dport⟩,fbk,fgen,fseen⟩,gen,bks,bk,till,count⟩ s).1 R):=by
 obtain⟨X,x,D,d,F,f,g0⟩:=h.soOpen
 have g1:=g0.cells #[.int .i64 k,.int .u32 src,.int .u32 dst,.int .i64 proto,.int .i64 sport,.int .i64 dport,.int .i64 fbk,.int .i64 fgen,.int .i64 fseen,.int .i64 gen,.slice A bks.length c,.int .i64 bk,.int .i64 till,.int .i64 count] 45
 have hbc:Hid (∀ w' l st,In F0 w0 w' (Cells sb (soC lb stb s.2.sure.gen (.slice X s.2.sure.bks.length x) (.slice D s.2.sure.drs.length d) (.slice F s.2.sure.fls.length f)) 82::BkR (.slice X s.2.sure.bks.length x) s.2.sure.bks::DrR (.slice D s.2.sure.drs.length d) s.2.sure.drs::FlR (.slice F s.2.sure.fls.length f) s.2.sure.fls::LgA lb bd l::DkA bd s.1::StA stb st::R)→In F0 w0 w' (SoL sb lb bd stb (s.1,⟨l,st,s.2.sure⟩) R)):=Lib.hid (fun w' l st h'=>In.soClose (s:=s.2.sure) (lb:=lb) (stb:=stb) h')
 have HG:=Lib.hid g0
 have K1:Hid (Calls Tryz.prog 34 #[agR ⟨k,⟨⟨src,dst,proto,sport,dport⟩,fbk,fgen,fseen⟩,gen,bks,bk,till,count⟩ A c] (w.alloc (.cells #[.int .i64 k,.int .u32 src,.int .u32 dst,.int .i64 proto,.int .i64 sport,.int .i64 dport,.int .i64 fbk,.int .i64 fgen,.int .i64 fseen,.int .i64 gen,.slice A bks.length c,.int .i64 bk,.int .i64 till,.int .i64 count] 45)) fun e w'=>e=.returned (.bool (mayRec ⟨k,⟨⟨src,dst,proto,sport,dport⟩,fbk,fgen,fseen⟩,gen,bks,bk,till,count⟩))∧In F0 w0 w' (Cells w.heap.size #[.int .i64 k,.int .u32 src,.int .u32 dst,.int .i64 proto,.int .i64 sport,.int .i64 dport,.int .i64 fbk,.int .i64 fgen,.int .i64 fseen,.int .i64 gen,.slice A bks.length c,.int .i64 bk,.int .i64 till,.int .i64 count] 45::Cells sb (soC lb stb s.2.sure.gen (.slice X s.2.sure.bks.length x) (.slice D s.2.sure.drs.length d) (.slice F s.2.sure.fls.length f)) 82::BkR (.slice X s.2.sure.bks.length x) s.2.sure.bks::DrR (.slice D s.2.sure.drs.length d) s.2.sure.drs::FlR (.slice F s.2.sure.fls.length f) s.2.sure.fls::LgA lb bd s.2.l::DkA bd s.1::StA stb s.2.st::R)):=Lib.hid (o_rcmay (r:=⟨k,⟨⟨src,dst,proto,sport,dport⟩,fbk,fgen,fseen⟩,gen,bks,bk,till,count⟩) (c:=c) (hs.moreL [Cells w.heap.size #[.int .i64 k,.int .u32 src,.int .u32 dst,.int .i64 proto,.int .i64 sport,.int .i64 dport,.int .i64 fbk,.int .i64 fgen,.int .i64 fseen,.int .i64 gen,.slice A bks.length c,.int .i64 bk,.int .i64 till,.int .i64 count] 45,Cells sb (soC lb stb s.2.sure.gen (.slice X s.2.sure.bks.length x) (.slice D s.2.sure.drs.length d) (.slice F s.2.sure.fls.length f)) 82,BkR (.slice X s.2.sure.bks.length x) s.2.sure.bks,DrR (.slice D s.2.sure.drs.length d) s.2.sure.drs,FlR (.slice F s.2.sure.fls.length f) s.2.sure.fls,LgA lb bd s.2.l,DkA bd s.1,StA stb s.2.st]) (Nat.le_trans hb (by decide)) g1)
 have hver:verOk (s.2.l.m.ver:Int)=true:=by
  have:=(mayM_iff.1 hl.2.2).1
  unfold verOk;simp;omega
 cases hm:mayRec ⟨k,⟨⟨src,dst,proto,sport,dport⟩,fbk,fgen,fseen⟩,gen,bks,bk,till,count⟩ with
 | false=>
  rw [writeS_bad (Or.inl hm)]
  rw [hm] at K1
  clear h g0 g1 hs wr HG hl ho hm hver
  go_enter Tryz.func9,Tryz.ntmps9
  go_wp2_with fail
  refine K1.out.mono ?_
  rintro e w2 ⟨rfl,g2⟩
  have G:=Lib.hid (hbc.out _ _ _ g2.drop)
  clear g2 K1 hbc
  go_wp2_with fail
  go_ret
  exact⟨rfl,G.out⟩
 | true=>
 rw [hm] at K1
 have HM:=Lib.hid hm
 clear hm
 by_cases h6:k=6
 ·subst h6
  rw [writeS_bad (Or.inr rfl)]
  clear h g0 g1 hs wr HG hl ho hver HM
  go_enter Tryz.func9,Tryz.ntmps9
  go_wp2_with fail
  refine K1.out.mono ?_
  rintro e w2 ⟨rfl,g2⟩
  have c0:w2.cell? ⟨w.heap.size,0,none⟩=some (.int .i64 6):=cell_of (g2.block 0 rfl) rfl
  have G:=Lib.hid (hbc.out _ _ _ g2.drop)
  clear g2 K1 hbc
  go_wp2_with fail
  go_ret
  exact⟨rfl,G.out⟩
 have q6:(k == 6)=false:=by rw [beq_eq_false_iff_ne];exact h6
 have H6:=Lib.hid h6
 have HS:=Lib.hid hs
 have HL:=Lib.hid hl
 have HOP:=Lib.hid ho
 have HV:=Lib.hid hver
 have HWR:=Lib.hid wr
 clear h g0 g1 hs HG hl ho hver h6 wr
 go_enter Tryz.func9,Tryz.ntmps9
 go_wp2_with fail
 refine K1.out.mono ?_
 rintro e w2 ⟨rfl,g2⟩
 have c0:w2.cell? ⟨w.heap.size,0,none⟩=some (.int .i64 k):=cell_of (g2.block 0 rfl) rfl
 have hz2:=sw_of ((g2.drewN 1).block 1 rfl) ((g2.drewN 1).block 0 rfl)
 have hsb:sb≠w.heap.size:=fun e=>(g2.ne 0 1 (by decide) rfl rfl) e.symm
 have K2:=Lib.hid (o_stcopy ((g2.drewN 1).sel2 (R1:=[_,_,_,_,_,_,_,_]) [7,0,1,2,3,4,5,6] (by decide) rfl))
 clear g2 K1
 go_wp2_with fail
 go_region_held3 (fun w'=>w'.cell? ⟨sb,0,none⟩=some (dptr lb)∧w'.cell? ⟨sb,1,none⟩=some (pR stb)∧w'.cell? ⟨w.heap.size,0,none⟩=some (.int .i64 k)∧w'.cell? ⟨w.heap.size,1,none⟩=some (.int .u32 src)∧w'.cell? ⟨w.heap.size,2,none⟩=some (.int .u32 dst)∧w'.cell? ⟨w.heap.size,3,none⟩=some (.int .i64 proto)∧w'.cell? ⟨w.heap.size,4,none⟩=some (.int .i64 sport)∧w'.cell? ⟨w.heap.size,5,none⟩=some (.int .i64 dport)∧w'.cell? ⟨w.heap.size,6,none⟩=some (.int .i64 fbk)∧w'.cell? ⟨w.heap.size,7,none⟩=some (.int .i64 fgen)∧w'.cell? ⟨w.heap.size,8,none⟩=some (.int .i64 fseen)∧w'.cell? ⟨w.heap.size,9,none⟩=some (.int .i64 gen)∧w'.cell? ⟨w.heap.size,10,none⟩=some (.slice A bks.length c)∧w'.cell? ⟨w.heap.size,11,none⟩=some (.int .i64 bk)∧w'.cell? ⟨w.heap.size,12,none⟩=some (.int .i64 till)∧w'.cell? ⟨w.heap.size,13,none⟩=some (.int .i64 count)) (first | exact hz4 | exact hz3 | exact hz2) (first
  | (go_at_call 35;refine K2.out.mono ?_;rintro e w3 ⟨sb2,rfl,g3⟩;have hz3:=sw_of (g3.block 3 rfl) (g3.block 2 rfl);have K3:=Lib.hid (o_apply (r:=⟨k,⟨⟨src,dst,proto,sport,dport⟩,fbk,fgen,fseen⟩,gen,bks,bk,till,count⟩) (HS.out.moreL [StA stb s.2.st,Cells w.heap.size #[.int .i64 k,.int .u32 src,.int .u32 dst,.int .i64 proto,.int .i64 sport,.int .i64 dport,.int .i64 fbk,.int .i64 fgen,.int .i64 fseen,.int .i64 gen,.slice A bks.length c,.int .i64 bk,.int .i64 till,.int .i64 count] 45,Cells sb (soC lb stb s.2.sure.gen (.slice X s.2.sure.bks.length x) (.slice D s.2.sure.drs.length d) (.slice F s.2.sure.fls.length f)) 82,BkR (.slice X s.2.sure.bks.length x) s.2.sure.bks,DrR (.slice D s.2.sure.drs.length d) s.2.sure.drs,FlR (.slice F s.2.sure.fls.length f) s.2.sure.fls,LgA lb bd s.2.l,DkA bd s.1]) hn hb HWR.out g3);clear g3)
  | (go_at_call 36;refine K3.out.mono ?_;rintro e w4 ⟨rfl,g4⟩;have hz4:=sw_of (g4.block 3 rfl) (g4.block 2 rfl);have G4:=Lib.hid g4.drop;clear g4))
 clear hz2 hz3 hz4 K2 K3
 by_cases he:(applySt s.2.st ⟨k,⟨⟨src,dst,proto,sport,dport⟩,fbk,fgen,fseen⟩,gen,bks,bk,till,count⟩).2=0
 case neg=>
  have HWE:=Lib.hid (writeS_no HM.out H6.out he)
  have q:((applySt s.2.st ⟨k,⟨⟨src,dst,proto,sport,dport⟩,fbk,fgen,fseen⟩,gen,bks,bk,till,count⟩).2 != 0)=true:=by rw [bne_iff_ne];exact he
  have G:=Lib.hid (hbc.out _ _ _ (G4.out.sel2 (R1:=[_,_,_,_,_,_,_,_]) [2,3,4,5,6,7,0] (by decide) rfl))
  clear he G4 hbc
  generalize (applySt s.2.st ⟨k,⟨⟨src,dst,proto,sport,dport⟩,fbk,fgen,fseen⟩,gen,bks,bk,till,count⟩).2=er at *
  go_wp2_with fail
  go_ret
  exact⟨by rw [HWE.out];rfl,by rw [HWE.out];exact G.out⟩
 rw [he]
 have henc:=(dec_enc HWR.out HV.out HM.out).1
 have hok:=(enc_ok (r:=⟨k,⟨⟨src,dst,proto,sport,dport⟩,fbk,fgen,fseen⟩,gen,bks,bk,till,count⟩) (v:=s.2.l.m.ver) henc).1
 have HWA:Hid (writeA ⟨k,⟨⟨src,dst,proto,sport,dport⟩,fbk,fgen,fseen⟩,gen,bks,bk,till,count⟩ s=appendL ((encRec ⟨k,⟨⟨src,dst,proto,sport,dport⟩,fbk,fgen,fseen⟩,gen,bks,bk,till,count⟩ s.2.l.m.ver).1.kind:Int) (encRec ⟨k,⟨⟨src,dst,proto,sport,dport⟩,fbk,fgen,fseen⟩,gen,bks,bk,till,count⟩ s.2.l.m.ver).1.body (s.1,s.2.l)):=Lib.hid rfl
 have HWF:=Lib.hid (fun h5=>writeS_fail (s:=s) HM.out H6.out he henc h5)
 have HWD:=Lib.hid (fun h5=>writeS_done (s:=s) HM.out H6.out he henc h5)
 have hy0:=sw_of ((G4.out.drewN 1).block 2 rfl) ((G4.out.drewN 1).block 1 rfl)
 have KVn:=Lib.hid (o_version ((G4.out.drewN 1).sel2 (R1:=[_,_,_,_,_,_,_,_]) [6,0,1,2,3,4,5,7] (by decide) rfl))
 have KE:=o_rcenc (r:=⟨k,⟨⟨src,dst,proto,sport,dport⟩,fbk,fgen,fseen⟩,gen,bks,bk,till,count⟩) (c:=c) (s.2.l.m.ver:Int) (HS.out.moreL [StA stb s.2.st,Cells w.heap.size #[.int .i64 k,.int .u32 src,.int .u32 dst,.int .i64 proto,.int .i64 sport,.int .i64 dport,.int .i64 fbk,.int .i64 fgen,.int .i64 fseen,.int .i64 gen,.slice A bks.length c,.int .i64 bk,.int .i64 till,.int .i64 count] 45,Cells sb (soC lb stb s.2.sure.gen (.slice X s.2.sure.bks.length x) (.slice D s.2.sure.drs.length d) (.slice F s.2.sure.fls.length f)) 82,BkR (.slice X s.2.sure.bks.length x) s.2.sure.bks,DrR (.slice D s.2.sure.drs.length d) s.2.sure.drs,FlR (.slice F s.2.sure.fls.length f) s.2.sure.fls,LgA lb bd s.2.l,DkA bd s.1]) HWR.out hb (G4.out.drewN 1)
 rw [show encRec ⟨k,⟨⟨src,dst,proto,sport,dport⟩,fbk,fgen,fseen⟩,gen,bks,bk,till,count⟩ s.2.l.m.ver=((encRec ⟨k,⟨⟨src,dst,proto,sport,dport⟩,fbk,fgen,fseen⟩,gen,bks,bk,till,count⟩ s.2.l.m.ver).1,0) from by rw [← henc]] at KE
 have KE2:=Lib.hid KE
 have z0:=(G4.out.drewN 1).cells #[.int .i64 0,.int .i64 0,.slice none 0 0] 85
 have hyz:=sw_of (z0.block 3 rfl) (z0.block 2 rfl)
 have KVz:=Lib.hid (o_version (z0.sel2 (R1:=[_,_,_,_,_,_,_,_,_]) [7,0,1,2,3,4,5,6,8] (by decide) rfl))
 have KEz:=o_rcenc (r:=⟨k,⟨⟨src,dst,proto,sport,dport⟩,fbk,fgen,fseen⟩,gen,bks,bk,till,count⟩) (c:=c) (s.2.l.m.ver:Int) (HS.out.moreL [Cells (w4.drewN 1).heap.size #[.int .i64 0,.int .i64 0,.slice none 0 0] 85,StA stb s.2.st,Cells w.heap.size #[.int .i64 k,.int .u32 src,.int .u32 dst,.int .i64 proto,.int .i64 sport,.int .i64 dport,.int .i64 fbk,.int .i64 fgen,.int .i64 fseen,.int .i64 gen,.slice A bks.length c,.int .i64 bk,.int .i64 till,.int .i64 count] 45,Cells sb (soC lb stb s.2.sure.gen (.slice X s.2.sure.bks.length x) (.slice D s.2.sure.drs.length d) (.slice F s.2.sure.fls.length f)) 82,BkR (.slice X s.2.sure.bks.length x) s.2.sure.bks,DrR (.slice D s.2.sure.drs.length d) s.2.sure.drs,FlR (.slice F s.2.sure.fls.length f) s.2.sure.fls,LgA lb bd s.2.l,DkA bd s.1]) HWR.out hb z0
 rw [show encRec ⟨k,⟨⟨src,dst,proto,sport,dport⟩,fbk,fgen,fseen⟩,gen,bks,bk,till,count⟩ s.2.l.m.ver=((encRec ⟨k,⟨⟨src,dst,proto,sport,dport⟩,fbk,fgen,fseen⟩,gen,bks,bk,till,count⟩ s.2.l.m.ver).1,0) from by rw [← henc]] at KEz
 have KEz2:=Lib.hid KEz
 clear KE KEz henc he G4 z0
 generalize (encRec ⟨k,⟨⟨src,dst,proto,sport,dport⟩,fbk,fgen,fseen⟩,gen,bks,bk,till,count⟩ s.2.l.m.ver).1=fr at *
 have HFO:=Lib.hid hok
 clear hok
 go_upto_region 6 with fail
 go_cut [6,7] (fun x6 x7 wx=>WCut ⟨k,⟨⟨src,dst,proto,sport,dport⟩,fbk,fgen,fseen⟩,gen,bks,bk,till,count⟩ fr w.heap.size sb lb bd stb A c s X x D d F f F0 w0 R x6 x7 wx)
 case first=>
  refine e_start (fun w'=>w'.cell? ⟨sb,0,none⟩=some (dptr lb)∧w'.cell? ⟨sb,1,none⟩=some (pR stb)∧w'.cell? ⟨w.heap.size,0,none⟩=some (.int .i64 k)∧w'.cell? ⟨w.heap.size,1,none⟩=some (.int .u32 src)∧w'.cell? ⟨w.heap.size,2,none⟩=some (.int .u32 dst)∧w'.cell? ⟨w.heap.size,3,none⟩=some (.int .i64 proto)∧w'.cell? ⟨w.heap.size,4,none⟩=some (.int .i64 sport)∧w'.cell? ⟨w.heap.size,5,none⟩=some (.int .i64 dport)∧w'.cell? ⟨w.heap.size,6,none⟩=some (.int .i64 fbk)∧w'.cell? ⟨w.heap.size,7,none⟩=some (.int .i64 fgen)∧w'.cell? ⟨w.heap.size,8,none⟩=some (.int .i64 fseen)∧w'.cell? ⟨w.heap.size,9,none⟩=some (.int .i64 gen)∧w'.cell? ⟨w.heap.size,10,none⟩=some (.slice A bks.length c)∧w'.cell? ⟨w.heap.size,11,none⟩=some (.int .i64 bk)∧w'.cell? ⟨w.heap.size,12,none⟩=some (.int .i64 till)∧w'.cell? ⟨w.heap.size,13,none⟩=some (.int .i64 count)) (by kernel_rfl) hy0 (fun hS=>?_)
  refine e_take (i:=0) (v:=?_) rfl (by kernel_rfl) (fun _ _ _ h=>h) (by rfl) ?_ hS ?_
  rotate_left
  ·(intro w hSw;(try dsimp only at hSw);go_simp;try with_reducible rfl)
  try simp only [Act.put,List.setIfInBounds_toArray,List.set_cons_zero,List.set_cons_succ]
  refine e_take (i:=1) (v:=?_) rfl (by kernel_rfl) (fun _ _ _ h=>h) (by rfl) ?_ hS ?_
  rotate_left
  ·(intro w hSw;(try dsimp only at hSw);go_simp;try with_reducible rfl)
  try simp only [Act.put,List.setIfInBounds_toArray,List.set_cons_zero,List.set_cons_succ]
  refine e_take (i:=2) (v:=?_) rfl (by kernel_rfl) (fun _ _ _ h=>h) (by rfl) ?_ hS ?_
  rotate_left
  ·(intro w hSw;(try dsimp only at hSw);go_simp;try with_reducible rfl)
  try simp only [Act.put,List.setIfInBounds_toArray,List.set_cons_zero,List.set_cons_succ]
  refine e_take (i:=3) (v:=?_) rfl (by kernel_rfl) (fun _ _ _ h=>h) (by rfl) ?_ hS ?_
  rotate_left
  ·(intro w hSw;(try dsimp only at hSw);go_simp;try with_reducible rfl)
  try simp only [Act.put,List.setIfInBounds_toArray,List.set_cons_zero,List.set_cons_succ]
  refine e_take (i:=4) (v:=?_) rfl (by kernel_rfl) (fun _ _ _ h=>h) (by rfl) ?_ hS ?_
  rotate_left
  ·(intro w hSw;(try dsimp only at hSw);go_simp;try with_reducible rfl)
  try simp only [Act.put,List.setIfInBounds_toArray,List.set_cons_zero,List.set_cons_succ]
  refine e_two (i:=5) (j:=10) rfl rfl (by kernel_rfl) (fun K' hK=>?_) (fun K' hK=>?_)
  ·go_simp
   go_at_call 38
   refine KVn.out.mono ?_
   rintro e w5 ⟨rfl,rfl⟩
   refine hK.out _ _ hy0 (fun hS=>?_)
   clear hK K'
   try simp only [Act.put,List.setIfInBounds_toArray,List.set_cons_zero,List.set_cons_succ]
   refine e_two (i:=6) (j:=10) rfl rfl (by kernel_rfl) (fun K' hK=>?_) (fun K' hK=>?_)
   ·go_simp
    go_at_call 37
    refine KE2.out.mono ?_
    rintro e w6 ⟨v,rfl,g6⟩
    obtain⟨Fv,rv⟩:=g6.get 0 rfl
    obtain⟨va,vc,rfl,-,-,-⟩:=RowA.shape rv
    clear rv
    have hy1:=sw_of (g6.block 3 rfl) (g6.block 2 rfl)
    have g7z:=g6.cells #[.int .i64 0,.int .i64 0,.slice none 0 0] 85
    have hyy:=sw_of (g7z.block 4 rfl) (g7z.block 3 rfl)
    have ht:=Lib.hid (there_of (g7z.block 0 rfl))
    have g7:=g7z.setFull 0 rfl (xs:=[.int .i64 fr.kind,.int .i64 fr.ver,.slice va fr.body.length vc]) (b:=w6.heap.size) (C:=#[.int .i64 0,.int .i64 0,.slice none 0 0]) (T:=85) rfl
    have hy3:=sw_of (g7.block 4 rfl) (g7.block 3 rfl)
    have G7:=Lib.hid g7
    clear g7 g7z
    clear g6
    refine hK.out _ _ hy1 (fun hS=>?_)
    clear hK K'
    try simp only [Act.put,List.setIfInBounds_toArray,List.set_cons_zero,List.set_cons_succ]
    refine e_take (i:=7) (v:=?_) rfl (by kernel_rfl) (fun _ _ _ h=>h) (by rfl) ?_ hS ?_
    rotate_left
    ·(intro w hSw;(try dsimp only at hSw);go_simp;try with_reducible rfl)
    try simp only [Act.put,List.setIfInBounds_toArray,List.set_cons_zero,List.set_cons_succ]
    refine e_take (i:=8) (v:=?_) rfl (by kernel_rfl) (fun _ _ _ h=>h) (by rfl) ?_ hS ?_
    rotate_left
    ·(intro w hSw;(try dsimp only at hSw);go_simp;try with_reducible rfl)
    try simp only [Act.put,List.setIfInBounds_toArray,List.set_cons_zero,List.set_cons_succ]
    refine e_take (i:=9) (v:=?_) rfl (by kernel_rfl) (fun _ _ _ h=>h) (by rfl) ?_ hS ?_
    rotate_left
    ·(intro w hSw;(try dsimp only at hSw);go_simp;try with_reducible rfl)
    try simp only [Act.put,List.setIfInBounds_toArray,List.set_cons_zero,List.set_cons_succ]
    refine e_pin (i:=10) rfl (by kernel_rfl) (fun K' hK=>?_)
    go_simp
    refine hK.out _ _ hyy (fun hS=>?_)
    clear hK K'
    try simp only [Act.put,List.setIfInBounds_toArray,List.set_cons_zero,List.set_cons_succ]
    refine e_pin (i:=11) rfl (by kernel_rfl) (fun K' hK=>?_)
    rw [if_pos (by rfl)]
    refine wp_store_mid 85 (.tmp 6) (.tmp 39) rfl w6.heap.size 0 #[.int .i64 fr.kind,.int .i64 fr.ver,.slice va fr.body.length vc] (by rfl) (by rfl) ht.out (by kernel_rfl) (by simp [Value.oneCell']) ?_
    refine hK.out _ _ hy3 (fun hS=>?_)
    clear hK K'
    try simp only [Act.put,List.setIfInBounds_toArray,List.set_cons_zero,List.set_cons_succ]
    refine e_last (i:=12) rfl (by kernel_rfl) (fun K' hK=>?_)
    go_simp
    refine hK.out _ _ ?_
    clear hK K'
    go_wp2_with fail
    go_meet
    exact⟨_,_,rfl,rfl,G7.out.sel2 (R1:=[_,_]) [0,1] (by decide) rfl⟩
   ·go_simp
    refine hK.out _ _ hyz (fun hS=>?_)
    clear hK K'
    try simp only [Act.put,List.setIfInBounds_toArray,List.set_cons_zero,List.set_cons_succ]
    refine e_pin (i:=6) rfl (by kernel_rfl) (fun K' hK=>?_)
    go_simp
    go_at_call 37
    refine KEz2.out.mono ?_
    rintro e w6 ⟨v,rfl,g6⟩
    obtain⟨Fv,rv⟩:=g6.get 0 rfl
    obtain⟨va,vc,rfl,-,-,-⟩:=RowA.shape rv
    clear rv
    have hy1:=sw_of (g6.block 4 rfl) (g6.block 3 rfl)
    have ht:=Lib.hid (there_of (g6.block 1 rfl))
    have g7:=g6.setFull 1 rfl (xs:=[.int .i64 fr.kind,.int .i64 fr.ver,.slice va fr.body.length vc]) (b:=(w4.drewN 1).heap.size) (C:=#[.int .i64 0,.int .i64 0,.slice none 0 0]) (T:=85) rfl
    have hy3:=sw_of (g7.block 4 rfl) (g7.block 3 rfl)
    have G7:=Lib.hid g7
    clear g7
    clear g6
    refine hK.out _ _ hy1 (fun hS=>?_)
    clear hK K'
    try simp only [Act.put,List.setIfInBounds_toArray,List.set_cons_zero,List.set_cons_succ]
    refine e_take (i:=7) (v:=?_) rfl (by kernel_rfl) (fun _ _ _ h=>h) (by rfl) ?_ hS ?_
    rotate_left
    ·(intro w hSw;(try dsimp only at hSw);go_simp;try with_reducible rfl)
    try simp only [Act.put,List.setIfInBounds_toArray,List.set_cons_zero,List.set_cons_succ]
    refine e_take (i:=8) (v:=?_) rfl (by kernel_rfl) (fun _ _ _ h=>h) (by rfl) ?_ hS ?_
    rotate_left
    ·(intro w hSw;(try dsimp only at hSw);go_simp;try with_reducible rfl)
    try simp only [Act.put,List.setIfInBounds_toArray,List.set_cons_zero,List.set_cons_succ]
    refine e_take (i:=9) (v:=?_) rfl (by kernel_rfl) (fun _ _ _ h=>h) (by rfl) ?_ hS ?_
    rotate_left
    ·(intro w hSw;(try dsimp only at hSw);go_simp;try with_reducible rfl)
    try simp only [Act.put,List.setIfInBounds_toArray,List.set_cons_zero,List.set_cons_succ]
    refine e_pin (i:=11) rfl (by kernel_rfl) (fun K' hK=>?_)
    rw [if_pos (by rfl)]
    refine wp_store_mid 85 (.tmp 6) (.tmp 39) rfl (w4.drewN 1).heap.size 0 #[.int .i64 fr.kind,.int .i64 fr.ver,.slice va fr.body.length vc] (by rfl) (by rfl) ht.out (by kernel_rfl) (by simp [Value.oneCell']) ?_
    refine hK.out _ _ hy3 (fun hS=>?_)
    clear hK K'
    try simp only [Act.put,List.setIfInBounds_toArray,List.set_cons_zero,List.set_cons_succ]
    refine e_last (i:=12) rfl (by kernel_rfl) (fun K' hK=>?_)
    go_simp
    refine hK.out _ _ ?_
    clear hK K'
    go_wp2_with fail
    go_meet
    exact⟨_,_,rfl,rfl,G7.out.sel2 (R1:=[_,_]) [1,0] (by decide) rfl⟩
  ·go_simp
   refine hK.out _ _ hyz (fun hS=>?_)
   clear hK K'
   try simp only [Act.put,List.setIfInBounds_toArray,List.set_cons_zero,List.set_cons_succ]
   refine e_pin (i:=5) rfl (by kernel_rfl) (fun K' hK=>?_)
   go_simp
   go_at_call 38
   refine KVz.out.mono ?_
   rintro e w5 ⟨rfl,rfl⟩
   refine hK.out _ _ hyz (fun hS=>?_)
   clear hK K'
   try simp only [Act.put,List.setIfInBounds_toArray,List.set_cons_zero,List.set_cons_succ]
   refine e_pin (i:=6) rfl (by kernel_rfl) (fun K' hK=>?_)
   go_simp
   go_at_call 37
   refine KEz2.out.mono ?_
   rintro e w6 ⟨v,rfl,g6⟩
   obtain⟨Fv,rv⟩:=g6.get 0 rfl
   obtain⟨va,vc,rfl,-,-,-⟩:=RowA.shape rv
   clear rv
   have hy1:=sw_of (g6.block 4 rfl) (g6.block 3 rfl)
   have ht:=Lib.hid (there_of (g6.block 1 rfl))
   have g7:=g6.setFull 1 rfl (xs:=[.int .i64 fr.kind,.int .i64 fr.ver,.slice va fr.body.length vc]) (b:=(w4.drewN 1).heap.size) (C:=#[.int .i64 0,.int .i64 0,.slice none 0 0]) (T:=85) rfl
   have hy3:=sw_of (g7.block 4 rfl) (g7.block 3 rfl)
   have G7:=Lib.hid g7
   clear g7
   clear g6
   refine hK.out _ _ hy1 (fun hS=>?_)
   clear hK K'
   try simp only [Act.put,List.setIfInBounds_toArray,List.set_cons_zero,List.set_cons_succ]
   refine e_take (i:=7) (v:=?_) rfl (by kernel_rfl) (fun _ _ _ h=>h) (by rfl) ?_ hS ?_
   rotate_left
   ·(intro w hSw;(try dsimp only at hSw);go_simp;try with_reducible rfl)
   try simp only [Act.put,List.setIfInBounds_toArray,List.set_cons_zero,List.set_cons_succ]
   refine e_take (i:=8) (v:=?_) rfl (by kernel_rfl) (fun _ _ _ h=>h) (by rfl) ?_ hS ?_
   rotate_left
   ·(intro w hSw;(try dsimp only at hSw);go_simp;try with_reducible rfl)
   try simp only [Act.put,List.setIfInBounds_toArray,List.set_cons_zero,List.set_cons_succ]
   refine e_take (i:=9) (v:=?_) rfl (by kernel_rfl) (fun _ _ _ h=>h) (by rfl) ?_ hS ?_
   rotate_left
   ·(intro w hSw;(try dsimp only at hSw);go_simp;try with_reducible rfl)
   try simp only [Act.put,List.setIfInBounds_toArray,List.set_cons_zero,List.set_cons_succ]
   refine e_pin (i:=11) rfl (by kernel_rfl) (fun K' hK=>?_)
   rw [if_pos (by rfl)]
   refine wp_store_mid 85 (.tmp 6) (.tmp 39) rfl (w4.drewN 1).heap.size 0 #[.int .i64 fr.kind,.int .i64 fr.ver,.slice va fr.body.length vc] (by rfl) (by rfl) ht.out (by kernel_rfl) (by simp [Value.oneCell']) ?_
   refine hK.out _ _ hy3 (fun hS=>?_)
   clear hK K'
   try simp only [Act.put,List.setIfInBounds_toArray,List.set_cons_zero,List.set_cons_succ]
   refine e_last (i:=12) rfl (by kernel_rfl) (fun K' hK=>?_)
   go_simp
   refine hK.out _ _ ?_
   clear hK K'
   go_wp2_with fail
   go_meet
   exact⟨_,_,rfl,rfl,G7.out.sel2 (R1:=[_,_]) [1,0] (by decide) rfl⟩
 case rest=>
  obtain⟨fb,v,rfl,rfl,hio⟩:=hcut
  obtain⟨Fv,rv⟩:=hio.get 1 rfl
  obtain⟨va,vc,rfl,-,-,-⟩:=RowA.shape rv
  have hq0:=fq_of ((hio.drewN 1).block 4 rfl) ((hio.drewN 1).block 0 rfl)
  have KA:=Lib.hid (o_append ((hio.drewN 1).sel2 (R1:=[_,_,_,_,_,_,_,_,_,_]) [8,9,0,1,2,3,4,5,6,7] (by decide) rfl) HL.out (by have:=HOP.out;omega) (fr.kind:Int) (A:=va) (c:=vc) (body:=fr.body) (by have:=HFO.out.body;omega) (fun w' h'=>by obtain⟨F',r'⟩:=h'.get 1 rfl;exact r'.all))
  clear hio rv hy0 hyz KVn KE2 KVz KEz2
  go_wp2_with fail
  go_region_held3 (fun w'=>w'.cell? ⟨sb,0,none⟩=some (dptr lb)∧w'.cell? ⟨fb,0,none⟩=some (.int .i64 fr.kind)∧w'.cell? ⟨fb,2,none⟩=some (.slice va fr.body.length vc)) (first | exact hq1 | exact hq0) (first
   | (go_at_call 39;refine KA.out.mono ?_;rintro e w7 ⟨rfl,g7⟩;have hq1:=fq_of (g7.block 6 rfl) (g7.block 2 rfl);have G7:=Lib.hid g7;clear g7))
  clear hq0 hq1 KA
  by_cases hA:(appendL (fr.kind:Int) fr.body (s.1,s.2.l)).2=0
  case neg=>
   have HWE:=Lib.hid (HWF.out (by rw [HWA.out];exact hA))
   have q:((appendL (fr.kind:Int) fr.body (s.1,s.2.l)).2 != 0)=true:=by rw [bne_iff_ne];exact hA
   have G:Hid (In F0 w0 w7 (SoL sb lb bd stb ((appendL (fr.kind:Int) fr.body (s.1,s.2.l)).1.1,⟨(appendL (fr.kind:Int) fr.body (s.1,s.2.l)).1.2,s.2.st,s.2.sure⟩) R)):=Lib.hid (In.soClose (s:=s.2.sure) (lb:=lb) (stb:=stb) (G7.out.sel2 (R1:=[_,_,_,_,_,_,_,_,_,_]) [6,7,8,9,0,1,4] (by decide) rfl))
   clear hA G7
   go_wp2_with fail
   go_ret
   exact⟨by rw [HWE.out,HWA.out];rfl,by rw [HWE.out,HWA.out];exact G.out⟩
  rw [hA]
  have HWE:=Lib.hid (HWD.out (by rw [HWA.out];exact hA))
  have hr0:=sw_of ((G7.out.drewN 1).block 6 rfl) ((G7.out.drewN 1).block 5 rfl)
  have KV12:=Lib.hid (o_version (G7.out.drewN 1))
  have KI:=Lib.hid (o_rcin (r:=⟨k,⟨⟨src,dst,proto,sport,dport⟩,fbk,fgen,fseen⟩,gen,bks,bk,till,count⟩) (c:=c) ((appendL (fr.kind:Int) fr.body (s.1,s.2.l)).1.2.m.ver:Int) (fun w' h'=>HS.out w' h'.drop.drop.drop.drop.drop.drop.drop.drop.drop.drop) hn hb (G7.out.drewN 1))
  have HIB:Hid ((inRec ⟨k,⟨⟨src,dst,proto,sport,dport⟩,fbk,fgen,fseen⟩,gen,bks,bk,till,count⟩ ((appendL (fr.kind:Int) fr.body (s.1,s.2.l)).1.2.m.ver:Int)).bks.length≤1000000):=Lib.hid (Nat.le_trans (inRec_bks _ _) hb)
  have HIW:=Lib.hid (WfR.inRec HWR.out ((appendL (fr.kind:Int) fr.body (s.1,s.2.l)).1.2.m.ver:Int))
  clear hA G7 HWF HWD
  go_wp2_with fail
  go_region_held3 (fun w'=>w'.cell? ⟨sb,0,none⟩=some (dptr lb)∧w'.cell? ⟨sb,1,none⟩=some (pR stb)∧w'.cell? ⟨w.heap.size,0,none⟩=some (.int .i64 k)∧w'.cell? ⟨w.heap.size,1,none⟩=some (.int .u32 src)∧w'.cell? ⟨w.heap.size,2,none⟩=some (.int .u32 dst)∧w'.cell? ⟨w.heap.size,3,none⟩=some (.int .i64 proto)∧w'.cell? ⟨w.heap.size,4,none⟩=some (.int .i64 sport)∧w'.cell? ⟨w.heap.size,5,none⟩=some (.int .i64 dport)∧w'.cell? ⟨w.heap.size,6,none⟩=some (.int .i64 fbk)∧w'.cell? ⟨w.heap.size,7,none⟩=some (.int .i64 fgen)∧w'.cell? ⟨w.heap.size,8,none⟩=some (.int .i64 fseen)∧w'.cell? ⟨w.heap.size,9,none⟩=some (.int .i64 gen)∧w'.cell? ⟨w.heap.size,10,none⟩=some (.slice A bks.length c)∧w'.cell? ⟨w.heap.size,11,none⟩=some (.int .i64 bk)∧w'.cell? ⟨w.heap.size,12,none⟩=some (.int .i64 till)∧w'.cell? ⟨w.heap.size,13,none⟩=some (.int .i64 count)) (first | exact hr2 | exact hr1 | exact hr0) (first
   | (go_at_call 38;refine KV12.out.mono ?_;rintro e w5 ⟨rfl,rfl⟩)
   | (go_at_call 40;refine KI.out.mono ?_;rintro e w8 ⟨pv,rfl,g8⟩;obtain⟨Fp,rp⟩:=g8.get 0 rfl;obtain⟨pa,pc,rfl,-,-,-⟩:=RowA.shape rp;have hr1:=sw_of (g8.block 7 rfl) (g8.block 6 rfl);have KP:=Lib.hid (o_apply (r:=inRec ⟨k,⟨⟨src,dst,proto,sport,dport⟩,fbk,fgen,fseen⟩,gen,bks,bk,till,count⟩ ((appendL (fr.kind:Int) fr.body (s.1,s.2.l)).1.2.m.ver:Int)) (A:=pa) (c:=pc) (bks_row rfl 0 rfl) (fun e=>RowA.noc rp e) HIB.out HIW.out (g8.sel2 (R1:=[_,_,_,_,_,_,_,_,_,_,_]) [5,0,1,2,3,4,6,7,8,9,10] (by decide) rfl));clear g8 rp)
   | (go_at_call 36;refine KP.out.mono ?_;rintro e w9 ⟨rfl,g9⟩;have hr2:=sw_of (g9.block 7 rfl) (g9.block 6 rfl);have G9:=Lib.hid g9;clear g9))
  have G:=Lib.hid (In.soClose (s:=s.2.sure) (lb:=lb) (stb:=stb) (G9.out.sel2 (R1:=[_,_,_,_,_,_,_,_,_,_,_]) [7,8,9,10,2,3,0] (by decide) rfl))
  clear G9 hr0 hr1 hr2 KP KI KV12
  go_wp2_with fail
  go_ret
  exact⟨by rw [HWE.out,HWA.out];rfl,by rw [HWE.out,HWA.out];exact G.out⟩
theorem o_sowrite {r:Rec} {A:Option Addr} {c:Nat} {s:SD} (hl:LgOk s.2.l) (ho:s.1.ops≤99990000) (hs:BksAt F0 w0 R A r.bks) (hn:A=none→c=0) (hb:r.bks.length≤1000000) (wr:WfR r) (h:In F0 w0 w (SoL sb lb bd stb s R)) :
  Calls Tryz.prog 9 #[pR sb,agR r A c] w fun e w'=>e=.returned (.int .i64 (writeS r s).2)∧In F0 w0 w' (SoL sb lb bd stb (writeS r s).1 R):=by
 obtain⟨k,⟨⟨src,dst,proto,sport,dport⟩,fbk,fgen,fseen⟩,gen,bks,bk,till,count⟩:=r
 exact o_sowrite0 hl ho hs hn hb wr h
end
instance:Inhabited StoreD:=⟨⟨default,zeroSt,zeroSt⟩⟩
def rP (n b:Int):Rec:=⟨1,⟨⟨n,0,6,0,0⟩,b,0,0⟩,0,[],0,0,0⟩
def bs0:DiskD×Option StoreD×Int:=createS 3 200 (dNew 5000)
def bsS:SD:=(bs0.1,bs0.2.1.getD default)
def bs1:SD×Int:=writeS (rP 1 7) bsS
def bs2:SD×Int:=syncS bs1.1
def bs3:SD×Int:=writeS (rP 2 8) bs2.1
def bs4:DiskD:=dCrash bs3.1.1 []
def bs5:DiskD×Option StoreD×Int:=openS 3 200 bs4
def lgOkC (l:LogD):Bool:=decide (16≤l.size∧l.size≤1048576) && mayM l.m
theorem lgOk_ofC {l:LogD} (h:lgOkC l=true):LgOk l:=by
 simp only [lgOkC,Bool.and_eq_true,decide_eq_true_eq] at h
 exact⟨h.1.1,h.1.2,h.2⟩
section
variable {F0:List Nat} {w0 w:World} {R:List Asrt}
theorem SoCrPost.some {bd:Nat} {r:DiskD×Option StoreD×Int} {so:StoreD} {e:Ending} {w':World} (h:SoCrPost bd r F0 w0 R e w') (hl:r.2.1=Option.some so):∃ sb lb stb,e=.returned (.tuple #[pR sb,.int .i64 r.2.2])∧In F0 w0 w' (SoL sb lb bd stb (r.1,so) R):=by
 unfold SoCrPost at h;rw [hl] at h;exact h
end
def Frz (b:Nat) (C:Array Value) (T:TypeId) (fz:Nat×Nat):Asrt:=fun w F=>F=[b]∧w.heap[b]?=some (.cells C T fz)
def aw1:DiskD×Option LogD×Int:=createD 3 100 (dNew 5000)
def awL:LogD:=aw1.2.1.getD default
def aw2:DL×Int:=appendL 1 [120] (aw1.1,awL)
def aw3:DL×Int:=syncL aw2.1
def aw4:DL×Int:=appendL 1 [121] aw3.1
def aw5:DiskD:=dCrash aw4.1.1 [0,0,5]
def aw6:Nat×DiskD×Option LogD×Int:=openL countF 100 aw5 0
def lgOkB (l:LogD):Bool:=decide (16≤l.size∧l.size≤1048576) && mayM l.m
section
variable {F0:List Nat} {w0 w:World} {R:List Asrt}
end
section
variable {F0:List Nat} {w0 w:World} {R:List Asrt}
end
structure FrCell (w:World) (g o:Nat) (f:FrD) (A:Option Addr) (c:Nat):Prop where
 kind:w.cell? ⟨g,o,none⟩=some (.int .i64 f.kind)
 ver:w.cell? ⟨g,o+1,none⟩=some (.int .i64 f.ver)
 val:w.cell? ⟨g,o+2,none⟩=some (.slice A f.body.length c)
 body:Src w A f.body.length 1 (u8s f.body)
 nil:A=none→f.body.length=0
def FrAt (w:World) (a:Option Addr) (fs:List FrD):Prop:=∀ k f,fs[k]?=some f→∃ g o A c,a=some ⟨g,o,none⟩∧FrCell w g (o+k * 3) f A c
section
variable {F0:List Nat} {w0 w:World} {R:List Asrt}
def SameRel (fs gs:List FrD) (F0:List Nat) (w0:World) (R:List Asrt) (i:Value) (wr:World):Prop:=
 ∃ k:Nat,k≤fs.length∧i=.int .i64 k∧fs.take k=gs.take k∧In F0 w0 wr R
end
end Go.Proofs.YtaopfagclnocdaaGreat
