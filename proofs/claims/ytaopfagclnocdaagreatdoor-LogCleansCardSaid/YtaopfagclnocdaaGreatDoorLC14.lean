/- Rows.LogCleansCardSaid -/
import Derived.Test.YtaopfagclnocdaaGreatDoorLC13
namespace Go.Proofs.YtaopfagclnocdaaGreatDoor
open Go.RowKit
set_option linter.unusedVariables false
set_option maxHeartbeats 64000000
set_option maxRecDepth 100000
theorem sized_eq (n:Int):((sized n:Nat):Int)=max 16 (min n 1048576):=by unfold sized;omega
theorem sized_bounds (n:Int):16≤sized n∧sized n≤1048576:=by unfold sized;omega
section
variable {F0:List Nat} {w0 w:World} {R:List Asrt} {bd lb:Nat} {d:DiskD} {l:LogD}
theorem o_sized (n:Int) (w:World):Calls Tryz.prog 41 #[.int .i64 n] w fun e w'=>e=.returned (.int .i64 (sized n))∧w'=w:=by
 have HE:=Lib.hid (sized_eq n)
 go_enter Tryz.func41,Tryz.ntmps41
 go_wp2_with fail
 go_ret
 exact⟨by rw [HE.out];rfl,rfl⟩
theorem cells_row {b:Nat} {u:Value} {T:TypeId} (h:In F0 w0 w (Cells b #[u] T::R)):In F0 w0 w (RowA T 1 (.slice (some ⟨b,0,none⟩) 1 1) 1 [u]::R):=
 h.imp (A':=RowA T 1 (.slice (some ⟨b,0,none⟩) 1 1) 1 [u]) 0 rfl (RowA.framed _ _ _ _ _) fun F ⟨hF,hb⟩=>⟨hF,rfl,Or.inr ⟨b,1,#[u],rfl,Nat.zero_le _,hb,Nat.le_refl _,by unfold maxLen;omega,rfl,rfl⟩⟩
theorem o_create1 (h:In F0 w0 w (DkA bd d::R)) (ho:d.ops≤99999990) {db:Nat} (j:Nat) (hj:R[j]?=some (Cells db #[dptr bd] 25)) :
  Calls Tryz.prog 34 #[.pointer (some ⟨db,0,none⟩)] w fun e w'=>e=.returned (.int .i64 (beginD 1 d).2)∧In F0 w0 w' (DkA bd (beginD 1 d).1::R):=by
 have c0:w.cell? ⟨db,0,none⟩=some (dptr bd):=cell_of (h.block (j+1) hj) rfl
 have C:=Lib.hid (show Calls Tryz.prog 35 #[dptr bd,.int .i64 1] w fun e w'=>e=.returned (.int .i64 (beginD 1 d).2)∧In F0 w0 w' (DkA bd (beginD 1 d).1::R) from o_begin h 0 rfl ho 1 (by omega))
 clear h hj
 go_enter Tryz.func34,Tryz.ntmps34
 go_wp2_with fail
 refine C.out.mono ?_
 rintro e w1 ⟨rfl,g⟩
 have G:=Lib.hid g
 clear g C
 go_wp2_with fail
 go_ret
 exact⟨rfl,G.out⟩
theorem o_create2 (h:In F0 w0 w (DkA bd d::R)) (ho:d.ops≤99999990) {db:Nat} (j:Nat) (hj:R[j]?=some (Cells db #[dptr bd] 25)) :
  Calls Tryz.prog 36 #[.pointer (some ⟨db,0,none⟩)] w fun e w'=>e=.returned (.int .i64 (dSync d (segName 1)).2)∧In F0 w0 w' (DkA bd (dSync d (segName 1)).1::R):=by
 have HP:Hid (∀ w' d',In F0 w0 w' (DkA bd d'::R)→w'.cell? ⟨db,0,none⟩=some (dptr bd)):=Lib.hid fun w' d' h'=>cell_of (h'.block (j+1) hj) rfl
 have HW:=Lib.hid (HP.out w d h)
 have C1:=Lib.hid (fun n=>(show Calls Tryz.prog 38 #[.int .i64 1] (w.drewN n) fun e w'=>e=.returned (.string (segName 1))∧In F0 w0 w' (DkA bd d::R) from o_name (h.drewN n) 1 (by omega)))
 have C2:=Lib.hid (fun w' (h':In F0 w0 w' (DkA bd d::R))=>o_dsync h' 0 rfl (by omega) (segName 1) (segName_size _))
 clear h hj
 generalize segName 1=nm at *
 go_enter Tryz.func36,Tryz.ntmps36
 go_wp2_with fail
 go_region_held3 (fun w'=>w'.cell? ⟨db,0,none⟩=some (dptr bd)) (first | exact HW.out | exact hc2 | exact hc1) (first
  | (go_at_call 38;refine (C1.out 1).mono ?_;rintro e w1 ⟨rfl,g1⟩;have hc1:=HP.out w1 _ g1;have K2:=Lib.hid (C2.out w1 g1);clear g1)
  | (go_at_call 37;refine K2.out.mono ?_;rintro e w2 ⟨rfl,g2⟩;have hc2:=HP.out w2 _ g2;have G:=Lib.hid g2;clear g2))
 go_wp2_with fail
 go_ret
 exact⟨rfl,G.out⟩
theorem o_create3 (m:ManD) {A:Option Addr} {c:Nat} (h:In F0 w0 w (DkA bd d::SegR A c m.segs::R)) (ho:d.ops≤99999990) (hn:m.segs.length≤1000000000) {db mb:Nat} (j k:Nat) (hj:R[j]?=some (Cells db #[dptr bd] 25)) (hk:R[k]?=some (Cells mb #[.int .i64 m.ver,.int .i64 m.next,.slice A m.segs.length c] 73)) :
  Calls Tryz.prog 39 #[.pointer (some ⟨db,0,none⟩),.pointer (some ⟨mb,0,none⟩)] w fun e w'=>e=.returned (.int .i64 (commitD m d).2.2)∧In F0 w0 w' (DkA bd (commitD m d).1::SegR A c m.segs::R):=by
 have c0:w.cell? ⟨db,0,none⟩=some (dptr bd):=cell_of (h.block (j+2) hj) rfl
 have c1:w.cell? ⟨mb,0,none⟩=some (.int .i64 m.ver):=cell_of (h.block (k+2) hk) rfl
 have c2:w.cell? ⟨mb,1,none⟩=some (.int .i64 m.next):=cell_of (h.block (k+2) hk) rfl
 have c3:w.cell? ⟨mb,2,none⟩=some (.slice A m.segs.length c):=cell_of (h.block (k+2) hk) rfl
 have C:=Lib.hid (o_commit h 0 rfl ho m (A:=A) (c:=c) (fun w' h'=>by obtain⟨F',r'⟩:=h'.get 1 rfl;exact r'.all) hn)
 unfold manAgg at C
 clear h hj hk
 go_enter Tryz.func39,Tryz.ntmps39
 go_wp2_with fail
 refine C.out.mono ?_
 rintro e w1 ⟨rfl,g⟩
 have G:=Lib.hid g
 have HX:Hid (∃ x,(commitD m d).2.2=x):=Lib.hid ⟨_,rfl⟩
 clear g C
 go_wp2_with fail
 go_ret
 exact⟨rfl,G.out⟩
def createFs (m:ManD):List (DiskD→DiskD×Int):=[beginD 1,fun d=>dSync d (segName 1),fun d=>((commitD m d).1,(commitD m d).2.2)]
theorem create_all (m:ManD) {fb db mb:Nat} {A:Option Addr} {c:Nat} (ho:d.ops≤99999000) (hn:m.segs.length≤1000000000)
  (fs:List (FuncId×Array Value)) (hfs:fs=[(34,#[.pointer (some ⟨db,0,none⟩)]),(36,#[.pointer (some ⟨db,0,none⟩)]),(39,#[.pointer (some ⟨db,0,none⟩),.pointer (some ⟨mb,0,none⟩)])])
  (h:In F0 w0 w (Cells fb (fs.map fnV).toArray 56::DkA bd d::SegR A c m.segs::Cells mb #[.int .i64 m.ver,.int .i64 m.next,.slice A m.segs.length c] 73::Cells db #[dptr bd] 25::R)) :
  Calls Tryz.prog 33 #[.slice (some ⟨fb,0,none⟩) 3 3] w fun e w'=>e=.returned (.int .i64 (foldD (createFs m) d).2)∧In F0 w0 w' (DkA bd (foldD (createFs m) d).1::SegR A c m.segs::Cells mb #[.int .i64 m.ver,.int .i64 m.next,.slice A m.segs.length c] 73::Cells db #[dptr bd] 25::R):=by
 have hent1:∀ args w',(callFunc 34 args).run Tryz.prog w'=.ok (.enter 34 args) w':=enters_of Tryz.func34 (by kernel_rfl) rfl
 have hent2:∀ args w',(callFunc 36 args).run Tryz.prog w'=.ok (.enter 36 args) w':=enters_of Tryz.func36 (by kernel_rfl) rfl
 have hent3:∀ args w',(callFunc 39 args).run Tryz.prog w'=.ok (.enter 39 args) w':=enters_of Tryz.func39 (by kernel_rfl) rfl
 have hlen:fs.length=3:=by rw [hfs];rfl
 have key:=all_fn (F0:=F0) (w0:=w0) (w:=w) (fun k (s:DiskD)=>s.ops≤99999000+10 * k)
  (fun s=>DkA bd s::SegR A c m.segs::Cells mb #[.int .i64 m.ver,.int .i64 m.next,.slice A m.segs.length c] 73::Cells db #[dptr bd] 25::R) fb 56 (createFs m) fs (by rw [hlen];rfl) (by omega) d 3
  (by omega)
  (fun k f hf s hI=>by
   rcases k with _ | _ | _ | k
   ·cases hf;have:=beginD_ops 1 s;omega
   ·cases hf;have:=dSync_ops s (segName 1);show (dSync s (segName 1)).1.ops≤_;omega
   ·cases hf;have:=commitD_ops m s;show (commitD m s).1.ops≤_;omega
   ·simp [createFs] at hf)
  (fun f hf=>by
   rw [hfs] at hf
   simp only [List.mem_cons,List.not_mem_nil,or_false] at hf
   rcases hf with rfl | rfl | rfl
   ·exact hent1
   ·exact hent2
   ·exact hent3)
  (fun k f g hf hg w' s hI h'=>by
   rw [hfs] at hf
   rcases k with _ | _ | _ | k
   ·cases hf;cases hg
    have:=o_create1 (h'.sel2 (R1:=[_,_]) [1,0] (by decide) rfl) (by omega) (db:=db) 3 rfl
    exact this.mono fun e w'' ⟨he,hw⟩=>⟨he,hw.sel2 (R1:=[_,_]) [1,0] (by decide) rfl⟩
   ·cases hf;cases hg
    have:=o_create2 (h'.sel2 (R1:=[_,_]) [1,0] (by decide) rfl) (by omega) (db:=db) 3 rfl
    exact this.mono fun e w'' ⟨he,hw⟩=>⟨he,hw.sel2 (R1:=[_,_]) [1,0] (by decide) rfl⟩
   ·cases hf;cases hg
    have:=o_create3 m (h'.sel2 (R1:=[_,_,_]) [1,2,0] (by decide) rfl) (by omega) hn (db:=db) (mb:=mb) 2 1 rfl rfl
    exact this.mono fun e w'' ⟨he,hw⟩=>⟨he,hw.sel2 (R1:=[_,_,_]) [2,0,1] (by decide) rfl⟩
   ·simp at hf) h
 rw [hlen] at key
 exact key.mono fun e w' ⟨he,hw⟩=>⟨he,hw.drop⟩
def CreatePost (bd:Nat) (r:DiskD×Option LogD×Int) (F0:List Nat) (w0:World) (R:List Asrt) (e:Ending) (w':World):Prop:=
 match r.2.1 with
 | none=>e=.returned (.tuple #[.pointer none,.int .i64 r.2.2])∧In F0 w0 w' (DkA bd r.1::R)
 | some l=>∃ lb,e=.returned (.tuple #[dptr lb,.int .i64 r.2.2])∧In F0 w0 w' (LgA lb bd l::DkA bd r.1::R)
theorem createD_eq (v size:Int) (d:DiskD) (h1:¬ (v < 1∨3 < v)) (h2:(nmAt d.now nmHead).isSome=false) :
  createD v size d=if (foldD (createFs (firstM v.toNat)) d).2≠0 then ((foldD (createFs (firstM v.toNat)) d).1,none,(foldD (createFs (firstM v.toNat)) d).2) else ((foldD (createFs (firstM v.toNat)) d).1,some ⟨sized size,firstM v.toNat,false⟩,0):=by
 unfold createD;rw [if_neg h1,if_neg (by rw [h2];simp)];rfl
theorem o_create (h:In F0 w0 w (DkA bd d::R)) (ho:d.ops≤99999000) (v size:Int) :
  Calls Tryz.prog 8 #[dptr bd,.int .i64 v,.int .i64 size] w (CreatePost bd (createD v size d) F0 w0 R):=by
 have h1:=h.cells #[dptr bd] 25
 have c0:(w.alloc (.cells #[dptr bd] 25)).cell? ⟨w.heap.size,0,none⟩=some (dptr bd):=cell_of (h1.block 0 rfl) rfl
 have HERR:Hid (∀ w' x,In F0 w0 w' (DkA bd d::R)→createD v size d=(d,none,x)→CreatePost bd (createD v size d) F0 w0 R (.returned (.tuple #[.pointer none,.int .i64 x])) w'):=Lib.hid fun w' x h' hx=>by
  rw [hx];exact⟨rfl,h'⟩
 by_cases hv:v < 1∨3 < v
 ·have HE:=Lib.hid (HERR.out _ 10 h1.drop (by unfold createD;rw [if_pos hv]))
  clear h h1 HERR
  by_cases hv1:v < 1
  ·have q1:decide (v < 1)=true:=by simpa using hv1
   clear hv hv1
   go_enter Tryz.func8,Tryz.ntmps8
   go_wp2_with fail
   go_ret2
   exact HE.out
  ·have q1:decide (v < 1)=false:=by simpa using hv1
   have q2:decide (3 < v)=true:=by simp;omega
   clear hv hv1
   go_enter Tryz.func8,Tryz.ntmps8
   go_wp2_with fail
   go_ret2
   exact HE.out
 ·obtain⟨n,rfl⟩:∃ n:Nat,v=(n:Int):=⟨v.toNat,by omega⟩
  have q1:decide ((n:Int) < 1)=false:=by simp;omega
  have q2:decide ((3:Int) < (n:Int))=false:=by simp;omega
  have C1:=Lib.hid (o_there h1 1 rfl nmHead nmHead_size)
  cases hq:(nmAt d.now nmHead).isSome with
  | true=>
   have HE:=Lib.hid (fun w' (h':In F0 w0 w' (Cells w.heap.size #[dptr bd] 25::DkA bd d::R))=>HERR.out w' 12 h'.drop (by unfold createD;rw [if_neg hv,if_pos hq]))
   rw [hq] at C1
   clear h h1 HERR hv hq
   go_enter Tryz.func8,Tryz.ntmps8
   go_wp2_with fail
   refine C1.out.mono ?_
   rintro e w1 ⟨rfl,g1⟩
   have HF:=Lib.hid (HE.out w1 g1)
   clear g1 C1 HE
   go_wp2_with fail
   go_ret2
   exact HF.out
  | false=>
   have HE:=Lib.hid (createD_eq n size d hv hq)
   rw [hq] at C1
   clear h h1 HERR hv hq
   go_enter Tryz.func8,Tryz.ntmps8
   go_wp2_with fail
   refine C1.out.mono ?_
   rintro e w1 ⟨rfl,g1⟩
   clear C1
   have g2:=cells_row (g1.cells #[.int .i64 1] 3)
   have g3:=g2.cells #[.int .i64 n,.int .i64 2,.slice (some ⟨w1.heap.size,0,none⟩) 1 1] 73
   have g4:=g3.cells #[.func (.func 34) #[] #[.pointer (some ⟨w.heap.size,0,none⟩)],.func (.func 36) #[] #[.pointer (some ⟨w.heap.size,0,none⟩)],.func (.func 39) #[] #[.pointer (some ⟨w.heap.size,0,none⟩),.pointer (some ⟨w1.heap.size+1,0,none⟩)]] 56
   simp only [World.size_alloc] at g4
   have K:=create_all (R:=R) (firstM n) (db:=w.heap.size) (mb:=w1.heap.size+1) (fb:=w1.heap.size+1+1) (A:=some ⟨w1.heap.size,0,none⟩) (c:=1) ho (by simp [firstM]) _ rfl (g4.sel2 (R1:=[_,_,_,_,_]) [0,4,2,1,3] (by decide) rfl)
   simp only [Int.toNat_natCast] at HE
   generalize foldD (createFs (firstM n)) d=r at *
   have KH:=Lib.hid K
   clear K g1 g2 g3 g4 c0
   by_cases hz:r.2=0
   ·have HC:Hid (createD n size d=(r.1,some ⟨sized size,firstM n,false⟩,0)):=Lib.hid (by rw [HE.out,if_neg (by simpa using hz)])
    have HZ:=Lib.hid hz
    clear hz HE
    go_wp2_with fail
    refine KH.out.mono ?_
    rintro e w2 ⟨rfl,g5⟩
    rw [HZ.out]
    have HS:Hid (w2.cell? ⟨w.heap.size,0,none⟩=some (dptr bd)∧w2.cell? ⟨w1.heap.size+1,0,none⟩=some (.int .i64 n)∧w2.cell? ⟨w1.heap.size+1,1,none⟩=some (.int .i64 2)∧w2.cell? ⟨w1.heap.size+1,2,none⟩=some (.slice (some ⟨w1.heap.size,0,none⟩) 1 1)):=Lib.hid
     ⟨cell_of (g5.block 3 rfl) rfl,cell_of (g5.block 2 rfl) rfl,cell_of (g5.block 2 rfl) rfl,cell_of (g5.block 2 rfl) rfl⟩
    have g6:=(g5.drewN 1).cells (lgC bd ⟨sized size,firstM n,false⟩ (.slice (some ⟨w1.heap.size,0,none⟩) 1 1)) 81
    have g7:In F0 w0 ((w2.drewN 1).alloc (.cells (lgC bd ⟨sized size,firstM n,false⟩ (.slice (some ⟨w1.heap.size,0,none⟩) 1 1)) 81)) (LgA w2.heap.size bd ⟨sized size,firstM n,false⟩::DkA bd r.1::R):=In.lgClose (l':=⟨sized size,firstM n,false⟩) (v:=.slice (some ⟨w1.heap.size,0,none⟩) 1 1) (g6.sel2 (R1:=[_,_,_,_,_]) [2,0,1] (by decide) rfl)
    have HF:Hid (CreatePost bd (createD n size d) F0 w0 R (.returned (.tuple #[dptr w2.heap.size,.int .i64 0])) _):=Lib.hid (by
     rw [HC.out]
     exact⟨_,rfl,g7⟩)
    clear g5 g6 g7 KH
    go_wp2_with fail
    obtain⟨s0,s1,s2,s3⟩:=HS.out
    go_region_held3 (fun w'=>w'.cell? ⟨w.heap.size,0,none⟩=some (dptr bd)∧w'.cell? ⟨w1.heap.size+1,0,none⟩=some (.int .i64 n)∧w'.cell? ⟨w1.heap.size+1,1,none⟩=some (.int .i64 2)∧w'.cell? ⟨w1.heap.size+1,2,none⟩=some (.slice (some ⟨w1.heap.size,0,none⟩) 1 1))
     (first | with_reducible exact HS.out | ((refine⟨?_,?_,?_,?_⟩ <;> repeat (first | with_reducible exact s0 | with_reducible exact s1 | with_reducible exact s2 | with_reducible exact s3 | rw [World.cell?_drew] | with_reducible refine kp_alloc ?_));done) | go_keep)
     (first | (go_at_call 41;refine (o_sized size _).mono ?_;rintro e w3 ⟨rfl,rfl⟩))
    go_wp2_with fail
    go_ret2
    exact HF.out
   ·have HC:Hid (createD n size d=(r.1,none,r.2)):=Lib.hid (by rw [HE.out,if_pos (by simpa using hz)])
    have q:(r.2 != 0)=true:=by rw [bne_iff_ne];exact hz
    clear hz HE
    go_wp2_with fail
    refine KH.out.mono ?_
    rintro e w2 ⟨rfl,g5⟩
    have HF:Hid (CreatePost bd (createD n size d) F0 w0 R (.returned (.tuple #[.pointer none,.int .i64 r.2])) w2):=Lib.hid (by
     rw [HC.out]
     exact⟨rfl,g5.sel2 (R1:=[_,_,_,_]) [0] (by decide) rfl⟩)
    clear g5 KH
    go_wp2_with fail
    go_ret2
    exact HF.out
end
end Go.Proofs.YtaopfagclnocdaaGreatDoor
