/- Rows.StoreRefusesSaid -/
import Derived.Test.YtpmmiljakbojaaaGreatRF25
import Derived.Deep.DeepCutAuto
import Derived.Test.YtpmmiljakbojaaaGreatRF7
namespace Go.Proofs.YtpmmiljakbojaaaGreat
open Go.RowKit
set_option linter.unusedVariables false
set_option maxHeartbeats 64000000
set_option maxRecDepth 100000
section
variable {F0:List Nat} {w0 w:World} {R:List Asrt} {bd lb:Nat} {d:DiskD} {l:LogD}
theorem In.lg0 (h:In F0 w0 w (LgA lb bd l::R)):w.cell? ⟨lb,0,none⟩=some (dptr bd):=by
 obtain⟨a,c,h1⟩:=h.lgOpen
 exact cell_of (h1.block 1 rfl) rfl
theorem In.lg3 (h:In F0 w0 w (LgA lb bd l::R)):w.cell? ⟨lb,3,none⟩=some (.int .i64 l.m.next):=by
 obtain⟨a,c,h1⟩:=h.lgOpen
 exact cell_of (h1.block 1 rfl) rfl
theorem turn_concat {a:Option Addr} {ca pb qb nx:Nat} {s:List Nat} (h:In F0 w0 w (Cells pb #[.slice a s.length ca,.slice (some ⟨qb,0,none⟩) 1 1] 102::Cells qb #[.int .i64 nx] 3::SegR a ca s::R)) (hs:s.length≤1000) :
  Calls Tryz.prog 126 #[.slice (some ⟨pb,0,none⟩) 2 2] w fun e w'=>∃ A c,e=.returned (.slice A (s++[nx]).length c)∧In F0 w0 w' (SegR A c (s++[nx])::SegR a ca s::R):=by
 have e1:partsL [(a,ca,s),(some ⟨qb,0,none⟩,1,[nx])]=s++[nx]:=by simp [partsL]
 refine (o_concat (R:=Cells qb #[.int .i64 nx] 3::SegR a ca s::R) (ps:=[(a,ca,s),(some ⟨qb,0,none⟩,1,[nx])]) (c:=2) h (by simp) (by rw [e1];simp) (by rw [e1];simp;omega) (fun p hp w' h'=>?_)).mono fun e w' ⟨v,he,h'⟩=>?_
 ·simp only [List.mem_cons,List.not_mem_nil,or_false] at hp
  rcases hp with rfl | rfl
  ·obtain⟨F',r'⟩:=h'.get 1 rfl
   exact r'.all
  ·exact Src.of_block (h'.block 0 rfl) rfl
 ·rw [e1] at h'
  obtain⟨F',r'⟩:=h'.get 0 rfl
  obtain⟨A,c,rfl,-,-,-⟩:=r'.shape
  exact⟨A,c,he,h'.sel2 (R1:=[_,_,_]) [0,2] (by decide) rfl⟩
def TurnMid (l:LogD) (lb bd bx:Nat) (d:DiskD) (F0:List Nat) (w0:World) (R:List Asrt) (v:Value) (wx:World):Prop:=
 ∃ mb A c,v=.pointer (some ⟨mb,0,none⟩)∧In F0 w0 wx (Cells mb #[.int .i64 l.m.ver,.int .i64 (l.m.next+1:Nat),.slice A (l.m.segs++[l.m.next]).length c] 104::SegR A c (l.m.segs++[l.m.next])::LgA lb bd l::DkA bd d::Cells bx #[dptr lb] 65::R)
theorem o_turn1 (h:In F0 w0 w (LgA lb bd l::DkA bd d::R)) (hl:LgOk l) (ho:d.ops≤100000000) {bx:Nat} (j:Nat) (hj:R[j]?=some (Cells bx #[dptr lb] 65)) :
  Calls Tryz.prog 127 #[.pointer (some ⟨bx,0,none⟩)] w fun e w'=>e=.returned (.int .i64 (dSync d (lastS l)).2)∧In F0 w0 w' (LgA lb bd l::DkA bd (dSync d (lastS l)).1::R):=by
 have HP:Hid (∀ w' d',In F0 w0 w' (LgA lb bd l::DkA bd d'::R)→w'.cell? ⟨bx,0,none⟩=some (dptr lb)∧w'.cell? ⟨lb,0,none⟩=some (dptr bd)):=Lib.hid fun w' d' h'=>⟨cell_of (h'.block (j+2) hj) rfl,h'.lg0⟩
 have HW:=Lib.hid (HP.out w d h)
 have C1:=Lib.hid (fun n=>o_last (h.drewN n) hl)
 have C2:=Lib.hid (fun w' (h':In F0 w0 w' (LgA lb bd l::DkA bd d::R))=>o_dsync h' 1 rfl ho (lastS l) (segName_size _))
 clear h hj hl
 go_enter Tryz.func127,Tryz.ntmps127
 go_wp2_with fail
 go_region_held3 (fun w'=>w'.cell? ⟨bx,0,none⟩=some (dptr lb)∧w'.cell? ⟨lb,0,none⟩=some (dptr bd)) (first | exact HW.out | exact hc2 | exact hc1) (first | (go_at_call 77;refine (C1.out 1).mono ?_;rintro e w1 ⟨rfl,g1⟩;have hc1:=HP.out w1 _ g1;have K2:=Lib.hid (C2.out w1 g1);clear g1) | (go_at_call 47;refine K2.out.mono ?_;rintro e w2 ⟨rfl,g2⟩;have hc2:=HP.out w2 _ g2;have G:=Lib.hid g2;clear g2))
 go_wp2_with fail
 go_ret
 exact⟨rfl,G.out⟩
theorem o_turn2 (h:In F0 w0 w (LgA lb bd l::DkA bd d::R)) (hl:LgOk l) (ho:d.ops≤99999990) {bx:Nat} (j:Nat) (hj:R[j]?=some (Cells bx #[dptr lb] 65)) :
  Calls Tryz.prog 128 #[.pointer (some ⟨bx,0,none⟩)] w fun e w'=>e=.returned (.int .i64 (beginD l.m.next d).2)∧In F0 w0 w' (LgA lb bd l::DkA bd (beginD l.m.next d).1::R):=by
 have HP:Hid (∀ w' d',In F0 w0 w' (LgA lb bd l::DkA bd d'::R)→w'.cell? ⟨bx,0,none⟩=some (dptr lb)∧w'.cell? ⟨lb,0,none⟩=some (dptr bd)∧w'.cell? ⟨lb,3,none⟩=some (.int .i64 l.m.next)):=Lib.hid fun w' d' h'=>⟨cell_of (h'.block (j+2) hj) rfl,h'.lg0,h'.lg3⟩
 have HW:=Lib.hid (HP.out w d h)
 have hn:=(mayM_iff.1 hl.2.2).1
 have C2:=Lib.hid (fun n=>o_begin (h.drewN n) 1 rfl ho l.m.next (by omega))
 clear h hj hl hn
 go_enter Tryz.func128,Tryz.ntmps128
 go_wp2_with fail
 go_region_held3 (fun w'=>w'.cell? ⟨bx,0,none⟩=some (dptr lb)∧w'.cell? ⟨lb,0,none⟩=some (dptr bd)∧w'.cell? ⟨lb,3,none⟩=some (.int .i64 l.m.next)) (first | exact HW.out | exact hc2) (first | (go_at_call 45;refine (C2.out 1).mono ?_;rintro e w2 ⟨rfl,g2⟩;have hc2:=HP.out w2 _ g2;have G:=Lib.hid g2;clear g2))
 go_wp2_with fail
 go_ret
 exact⟨rfl,G.out⟩
theorem o_turn3 (h:In F0 w0 w (LgA lb bd l::DkA bd d::R)) (ho:d.ops≤99999990) {bx nb:Nat} (j k:Nat) (n:ByteArray) (hn:n.size≤maxLen) (hj:R[j]?=some (Cells bx #[dptr lb] 65)) (hk:R[k]?=some (Cells nb #[.string n] 9)) :
  Calls Tryz.prog 129 #[.pointer (some ⟨bx,0,none⟩),.pointer (some ⟨nb,0,none⟩)] w fun e w'=>e=.returned (.int .i64 (dSync d n).2)∧In F0 w0 w' (LgA lb bd l::DkA bd (dSync d n).1::R):=by
 have HP:Hid (∀ w' d',In F0 w0 w' (LgA lb bd l::DkA bd d'::R)→w'.cell? ⟨bx,0,none⟩=some (dptr lb)∧w'.cell? ⟨lb,0,none⟩=some (dptr bd)∧w'.cell? ⟨nb,0,none⟩=some (.string n)):=Lib.hid fun w' d' h'=>⟨cell_of (h'.block (j+2) hj) rfl,h'.lg0,cell_of (h'.block (k+2) hk) rfl⟩
 have HW:=Lib.hid (HP.out w d h)
 have C2:=Lib.hid (fun m=>o_dsync (h.drewN m) 1 rfl (by omega) n hn)
 clear h hj hk
 go_enter Tryz.func129,Tryz.ntmps129
 go_wp2_with fail
 go_region_held3 (fun w'=>w'.cell? ⟨bx,0,none⟩=some (dptr lb)∧w'.cell? ⟨lb,0,none⟩=some (dptr bd)∧w'.cell? ⟨nb,0,none⟩=some (.string n)) (first | exact HW.out | exact hc2) (first | (go_at_call 47;refine (C2.out 1).mono ?_;rintro e w2 ⟨rfl,g2⟩;have hc2:=HP.out w2 _ g2;have G:=Lib.hid g2;clear g2))
 go_wp2_with fail
 go_ret
 exact⟨rfl,G.out⟩
theorem o_turn4 (m:ManD) {A:Option Addr} {c:Nat} (h:In F0 w0 w (LgA lb bd l::DkA bd d::SegR A c m.segs::R)) (ho:d.ops≤99999990) (hn:m.segs.length≤1000000000) {bx mb:Nat} (j k:Nat) (hj:R[j]?=some (Cells bx #[dptr lb] 65)) (hk:R[k]?=some (Cells mb #[.int .i64 m.ver,.int .i64 m.next,.slice A m.segs.length c] 104)) :
  Calls Tryz.prog 130 #[.pointer (some ⟨bx,0,none⟩),.pointer (some ⟨mb,0,none⟩)] w fun e w'=>e=.returned (.int .i64 (adoptL m (d,l)).2.2)∧In F0 w0 w' (LgA lb bd (adoptL m (d,l)).1.2::DkA bd (adoptL m (d,l)).1.1::R):=by
 have c0:w.cell? ⟨bx,0,none⟩=some (dptr lb):=cell_of (h.block (j+3) hj) rfl
 have c1:w.cell? ⟨mb,0,none⟩=some (.int .i64 m.ver):=cell_of (h.block (k+3) hk) rfl
 have c2:w.cell? ⟨mb,1,none⟩=some (.int .i64 m.next):=cell_of (h.block (k+3) hk) rfl
 have c3:w.cell? ⟨mb,2,none⟩=some (.slice A m.segs.length c):=cell_of (h.block (k+3) hk) rfl
 have C:=Lib.hid (o_adopt m h ho hn)
 unfold manAgg at C
 clear h hj hk
 go_enter Tryz.func130,Tryz.ntmps130
 go_wp2_with fail
 refine C.out.mono ?_
 rintro e w1 ⟨rfl,g,-⟩
 have G:=Lib.hid g
 have HX:Hid (∃ x,(adoptL m (d,l)).2.2=x):=Lib.hid ⟨_,rfl⟩
 have HY:Hid (∃ x,(adoptL m (d,l)).2.1=x):=Lib.hid ⟨_,rfl⟩
 clear g C
 go_wp2_with fail
 go_ret
 exact⟨rfl,G.out⟩
def liftF {σ:Type} (p:(Bool→Bool)×(σ→σ×Int)) (s:σ×Bool):(σ×Bool)×Int:=(((p.2 s.1).1,p.1 s.2),(p.2 s.1).2)
theorem foldD_lift {σ:Type} (L:List ((Bool→Bool)×(σ→σ×Int))) (s:σ×Bool):(foldD (L.map liftF) s).1.1=(foldD (L.map (·.2)) s.1).1∧(foldD (L.map liftF) s).2=(foldD (L.map (·.2)) s.1).2:=by
 suffices h:∀ (L:List ((Bool→Bool)×(σ→σ×Int))) (a:(σ×Bool)×Int) (b:σ×Int),a.1.1=b.1→a.2=b.2→((L.map liftF).foldl thenD a).1.1=((L.map (·.2)).foldl thenD b).1∧((L.map liftF).foldl thenD a).2=((L.map (·.2)).foldl thenD b).2 from h L _ _ rfl rfl
 intro L
 induction L with
 | nil=>intro a b h1 h2;exact⟨h1,h2⟩
 | cons p L ih=>
  intro a b h1 h2
  simp only [List.map_cons,List.foldl_cons]
  refine ih _ _ ?_ ?_
  ·unfold thenD
   rw [h2]
   split
   ·show (p.2 a.1.1).1=_;rw [h1]
   ·exact h1
  ·unfold thenD
   rw [h2]
   split
   ·show (p.2 a.1.1).2=_;rw [h1]
   ·exact h2
def turnFs (l:LogD):List ((Bool→Bool)×(DL→DL×Int)):=
 [(id,onDisk (fun d=>dSync d (lastS l))),(id,onDisk (beginD l.m.next)),(id,onDisk (fun d=>dSync d (segName l.m.next))),(fun _=>true,fun t=>((adoptL (turnM l) t).1,(adoptL (turnM l) t).2.2))]
theorem turnL_fold (d:DiskD) (l:LogD) (h:¬ 64≤l.m.segs.length):foldD ((turnFs l).map (·.2)) (d,l)=turnL (d,l):=by
 unfold turnL;rw [if_neg h];rfl
def TurnX (lb bd bx mb nb:Nat) (l:LogD) (A:Option Addr) (c:Nat) (R:List Asrt) (s:DL×Bool):List Asrt:=
 LgA lb bd s.1.2::DkA bd s.1.1::((if s.2 then [] else [SegR A c (turnM l).segs])++Cells nb #[.string (segName l.m.next)] 9::Cells mb #[.int .i64 (turnM l).ver,.int .i64 (turnM l).next,.slice A (turnM l).segs.length c] 104::Cells bx #[dptr lb] 65::R)
def TurnI (l:LogD) (k:Nat) (s:DL×Bool):Prop:=k≤3→(s.1.2=l∧s.2=false∧s.1.1.ops≤99999900+10 * k)
theorem turnI_step (l:LogD) (k:Nat) (f:DL×Bool→(DL×Bool)×Int) (hf:((turnFs l).map liftF)[k]?=some f) (s:DL×Bool) (h:TurnI l k s):TurnI l (k+1) (f s).1:=by
 intro hk
 obtain⟨h1,h2,h3⟩:=h (by omega)
 rcases k with _ | _ | _ | k
 ·cases hf
  have:=dSync_ops s.1.1 (lastS l)
  refine⟨h1,h2,?_⟩
  show (dSync s.1.1 (lastS l)).1.ops≤_;omega
 ·cases hf
  have:=beginD_ops l.m.next s.1.1
  refine⟨h1,h2,?_⟩
  show (beginD l.m.next s.1.1).1.ops≤_;omega
 ·cases hf
  have:=dSync_ops s.1.1 (segName l.m.next)
  refine⟨h1,h2,?_⟩
  show (dSync s.1.1 (segName l.m.next)).1.ops≤_;omega
 ·omega
theorem turn_all {fb bx mb nb:Nat} {A:Option Addr} {c:Nat} (hl:LgOk l) (ho:d.ops≤99999900)
  (fs:List (FuncId×Array Value)) (hfs:fs=[(127,#[.pointer (some ⟨bx,0,none⟩)]),(128,#[.pointer (some ⟨bx,0,none⟩)]),(129,#[.pointer (some ⟨bx,0,none⟩),.pointer (some ⟨nb,0,none⟩)]),(130,#[.pointer (some ⟨bx,0,none⟩),.pointer (some ⟨mb,0,none⟩)])])
  (h:In F0 w0 w (Cells fb (fs.map fnV).toArray 54::TurnX lb bd bx mb nb l A c R ((d,l),false))) :
  Calls Tryz.prog 43 #[.slice (some ⟨fb,0,none⟩) 4 4] w fun e w'=>e=.returned (.int .i64 (foldD ((turnFs l).map (·.2)) (d,l)).2)∧In F0 w0 w' (LgA lb bd (foldD ((turnFs l).map (·.2)) (d,l)).1.2::DkA bd (foldD ((turnFs l).map (·.2)) (d,l)).1.1::R):=by
 have hent1:∀ args w',(callFunc 127 args).run Tryz.prog w'=.ok (.enter 127 args) w':=enters_of Tryz.func127 (by kernel_rfl) rfl
 have hent2:∀ args w',(callFunc 128 args).run Tryz.prog w'=.ok (.enter 128 args) w':=enters_of Tryz.func128 (by kernel_rfl) rfl
 have hent3:∀ args w',(callFunc 129 args).run Tryz.prog w'=.ok (.enter 129 args) w':=enters_of Tryz.func129 (by kernel_rfl) rfl
 have hent4:∀ args w',(callFunc 130 args).run Tryz.prog w'=.ok (.enter 130 args) w':=enters_of Tryz.func130 (by kernel_rfl) rfl
 have hlen:fs.length=4:=by rw [hfs];rfl
 have hm:=(mayM_iff.1 hl.2.2).1
 have key:=all_fn (F0:=F0) (w0:=w0) (w:=w) (TurnI l) (TurnX lb bd bx mb nb l A c R) fb 54 ((turnFs l).map liftF) fs (by rw [hlen];rfl) (by omega) ((d,l),false) 4
  (fun _=>⟨rfl,rfl,by simp only;omega⟩) (fun k f hf s hI=>turnI_step l k f hf s hI)
  (fun f hf=>by
   rw [hfs] at hf
   simp only [List.mem_cons,List.not_mem_nil,or_false] at hf
   rcases hf with rfl | rfl | rfl | rfl
   ·exact hent1
   ·exact hent2
   ·exact hent3
   ·exact hent4)
  (fun k f g hf hg w' s hI h'=>by
   rw [hfs] at hf
   obtain⟨⟨d1,l1⟩,b1⟩:=s
   rcases k with _ | _ | _ | _ | k
   ·obtain⟨h1,h2,h3⟩:=hI (by omega)
    simp only at h1 h2 h3
    subst h1 h2
    cases hf;cases hg
    have:=o_turn1 (h'.sel2 (R1:=[_,_,_]) [1,2,0] (by decide) rfl) hl (by simp only;omega) (bx:=bx) 4 rfl
    exact this.mono fun e w'' ⟨he,hw⟩=>⟨he,hw.sel2 (R1:=[_,_,_]) [2,0,1] (by decide) rfl⟩
   ·obtain⟨h1,h2,h3⟩:=hI (by omega)
    simp only at h1 h2 h3
    subst h1 h2
    cases hf;cases hg
    have:=o_turn2 (h'.sel2 (R1:=[_,_,_]) [1,2,0] (by decide) rfl) hl (by simp only;omega) (bx:=bx) 4 rfl
    exact this.mono fun e w'' ⟨he,hw⟩=>⟨he,hw.sel2 (R1:=[_,_,_]) [2,0,1] (by decide) rfl⟩
   ·obtain⟨h1,h2,h3⟩:=hI (by omega)
    simp only at h1 h2 h3
    subst h1 h2
    cases hf;cases hg
    have:=o_turn3 (h'.sel2 (R1:=[_,_,_]) [1,2,0] (by decide) rfl) (by simp only;omega) (bx:=bx) (nb:=nb) 4 2 (segName l1.m.next) (segName_size _) rfl rfl
    exact this.mono fun e w'' ⟨he,hw⟩=>⟨he,hw.sel2 (R1:=[_,_,_]) [2,0,1] (by decide) rfl⟩
   ·obtain⟨h1,h2,h3⟩:=hI (by omega)
    simp only at h1 h2 h3
    subst h1 h2
    cases hf;cases hg
    have:=o_turn4 (turnM l1) (A:=A) (c:=c) (h'.sel2 (R1:=[_,_,_,_]) [1,2,3,0] (by decide) rfl) (by simp only;omega) (by simp [turnM];omega) (bx:=bx) (mb:=mb) 3 2 rfl rfl
    exact this.mono fun e w'' ⟨he,hw⟩=>⟨he,hw.sel2 (R1:=[_,_,_]) [2,0,1] (by decide) rfl⟩
   ·simp at hf) h
 rw [hlen] at key
 refine key.mono fun e w' ⟨he,hw⟩=>?_
 obtain⟨e1,e2⟩:=foldD_lift (turnFs l) ((d,l),false)
 rw [e2] at he
 refine⟨he,?_⟩
 have hw2:=hw.drop
 unfold TurnX at hw2
 rw [e1] at hw2
 cases hb:(foldD ((turnFs l).map liftF) ((d,l),false)).1.2 with
 | true=>rw [hb] at hw2;exact hw2.sel2 (R1:=[_,_,_,_,_]) [0,1] (by decide) rfl
 | false=>rw [hb] at hw2;exact hw2.sel2 (R1:=[_,_,_,_,_,_]) [0,1] (by decide) rfl
end
section
variable {F0:List Nat} {w0 w:World} {R:List Asrt} {bd lb:Nat} {d:DiskD} {l:LogD}
abbrev TurnS (a:Option Addr) (ca pb qb:Nat) (l:LogD):List Asrt:=[Cells pb #[.slice a l.m.segs.length ca,.slice (some ⟨qb,0,none⟩) 1 1] 102,Cells qb #[.int .i64 l.m.next] 3,SegR a ca l.m.segs]
abbrev TurnB (a:Option Addr) (ca bx lb bd:Nat) (l:LogD) (d:DiskD) (R:List Asrt):List Asrt:=Cells bx #[dptr lb] 65::Cells lb (lgC bd l (.slice a l.m.segs.length ca)) 112::DkA bd d::R
def TurnC (bx lb:Nat) (l:LogD) (a:Option Addr) (ca:Nat) (w':World):Prop:=
 w'.cell? ⟨bx,0,none⟩=some (dptr lb)∧w'.cell? ⟨lb,2,none⟩=some (.int .i64 l.m.ver)∧w'.cell? ⟨lb,3,none⟩=some (.int .i64 l.m.next)∧w'.cell? ⟨lb,4,none⟩=some (.slice a l.m.segs.length ca)
theorem turn_KA {a:Option Addr} {ca pb qb bx mb:Nat} (hl:l.m.segs.length≤64)
  (h:In F0 w0 w (TurnS a ca pb qb l++Cells mb #[.int .i64 0,.int .i64 0,.slice none 0 0] 104::TurnB a ca bx lb bd l d R)) :
  Calls Tryz.prog 126 #[.slice (some ⟨pb,0,none⟩) 2 2] w fun e w'=>∃ A c,e=.returned (.slice A (l.m.segs.length+1) c)∧TurnC bx lb l a ca w'∧(w'.frozen? ⟨mb,0,none⟩=false∧w'.frozen? ⟨mb,1,none⟩=false∧w'.frozen? ⟨mb,2,none⟩=false∧w'.cell? ⟨mb,0,none⟩=some (.int .i64 0)∧w'.cell? ⟨mb,1,none⟩=some (.int .i64 0)∧w'.cell? ⟨mb,2,none⟩=some (.slice none 0 0)) ∧
   TurnMid l lb bd bx d F0 w0 R (.pointer (some ⟨mb,0,none⟩)) (((w'.setCell ⟨mb,0,none⟩ (.int .i64 l.m.ver)).setCell ⟨mb,1,none⟩ (.int .i64 ((l.m.next:Int)+1))).setCell ⟨mb,2,none⟩ (.slice A (l.m.segs.length+1) c)):=by
 refine (turn_concat h (by omega)).mono fun e w' ⟨A,c,he,h'⟩=>?_
 have e1:(l.m.segs++[l.m.next]).length=l.m.segs.length+1:=by simp
 refine⟨A,c,by rw [he,e1],⟨cell_of (h'.block 3 rfl) rfl,cell_of (h'.block 4 rfl) rfl,cell_of (h'.block 4 rfl) rfl,cell_of (h'.block 4 rfl) rfl⟩,⟨free_of (h'.block 2 rfl),free_of (h'.block 2 rfl),free_of (h'.block 2 rfl),cell_of (h'.block 2 rfl) rfl,cell_of (h'.block 2 rfl) rfl,cell_of (h'.block 2 rfl) rfl⟩,mb,A,c,rfl,?_⟩
 have h2:=(h'.sel2 (R1:=[_,_,_,_,_,_]) [2,1,4,5,3,0] (by decide) rfl).set3 (.int .i64 l.m.ver) (.int .i64 ((l.m.next:Int)+1)) (.slice A (l.m.segs.length+1) c)
 have h3:=(h2.sel2 (R1:=[_,_,_]) [1,2,0] (by decide) rfl).lgClose
 rw [e1]
 exact h3.sel2 (R1:=[_,_,_,_,_]) [1,4,0,2,3] (by decide) rfl
theorem turn_KD {a:Option Addr} {ca pb qb bx:Nat} (hl:l.m.segs.length≤64)
  (h:In F0 w0 w (TurnS a ca pb qb l++TurnB a ca bx lb bd l d R)) :
  Calls Tryz.prog 126 #[.slice (some ⟨pb,0,none⟩) 2 2] w fun e w'=>∃ A c,e=.returned (.slice A (l.m.segs.length+1) c)∧TurnC bx lb l a ca w' ∧
   TurnMid l lb bd bx d F0 w0 R (.pointer (some ⟨w'.heap.size,0,none⟩)) (w'.alloc (.cells #[.int .i64 l.m.ver,.int .i64 ((l.m.next:Int)+1),.slice A (l.m.segs.length+1) c] 104)):=by
 refine (turn_concat h (by omega)).mono fun e w' ⟨A,c,he,h'⟩=>?_
 have e1:(l.m.segs++[l.m.next]).length=l.m.segs.length+1:=by simp
 refine⟨A,c,by rw [he,e1],⟨cell_of (h'.block 2 rfl) rfl,cell_of (h'.block 3 rfl) rfl,cell_of (h'.block 3 rfl) rfl,cell_of (h'.block 3 rfl) rfl⟩,_,A,c,rfl,?_⟩
 have h2:=h'.cells #[.int .i64 l.m.ver,.int .i64 ((l.m.next:Int)+1),.slice A (l.m.segs.length+1) c] 104
 have h3:=(h2.sel2 (R1:=[_,_,_,_,_,_]) [2,4,0,1,5,3] (by decide) rfl).lgClose
 rw [e1]
 exact h3.sel2 (R1:=[_,_,_,_,_]) [1,2,0,3,4] (by decide) rfl
theorem kp_alloc {w:World} {a:Addr} {v:Value} {o:Obj} (h:w.cell? a=some v):(w.alloc o).cell? a=some v:=by
 rw [World.cell?_alloc_some _ _ _ (by rw [h];rfl)];exact h
theorem o_turn (h:In F0 w0 w (LgA lb bd l::DkA bd d::R)) (hl:LgOk l) (ho:d.ops≤99999900) :
  Calls Tryz.prog 78 #[dptr lb] w fun e w'=>e=.returned (.int .i64 (turnL (d,l)).2)∧In F0 w0 w' (LgA lb bd (turnL (d,l)).1.2::DkA bd (turnL (d,l)).1.1::R):=by
 have hm:=(mayM_iff.1 hl.2.2).1
 obtain⟨a,ca,h1⟩:=h.lgOpen
 have c2:w.cell? ⟨lb,2,none⟩=some (.int .i64 l.m.ver):=cell_of (h1.block 1 rfl) rfl
 have c3:w.cell? ⟨lb,3,none⟩=some (.int .i64 l.m.next):=cell_of (h1.block 1 rfl) rfl
 have c4:w.cell? ⟨lb,4,none⟩=some (.slice a l.m.segs.length ca):=cell_of (h1.block 1 rfl) rfl
 by_cases h64:64≤l.m.segs.length
 ·have HE:Hid (turnL (d,l)=((d,l),4)):=Lib.hid (by unfold turnL;rw [if_pos h64])
  have q:decide ((64:Int)≤(l.m.segs.length:Int))=true:=by simp;omega
  have c4':(w.alloc (.cells #[dptr lb] 65)).cell? ⟨lb,4,none⟩=some (.slice a l.m.segs.length ca):=cell_of ((h1.cells #[dptr lb] 65).block 2 rfl) rfl
  have H:=Lib.hid ((h.cells #[dptr lb] 65).drop)
  clear h h1 hl hm
  go_enter Tryz.func78,Tryz.ntmps78
  go_wp2_with fail
  go_ret
  exact⟨by rw [HE.out];rfl,by rw [HE.out];exact H.out⟩
 ·have q:decide ((64:Int)≤(l.m.segs.length:Int))=false:=by simp;omega
  have HE:=Lib.hid (turnL_fold d l h64)
  have g0:=h1.cells #[dptr lb] 65
  have HG0:=Lib.hid g0
  have HLO:=Lib.hid (And.intro hl ho)
  have hlen:l.m.segs.length≤64:=hm.2.2.2.1
  have hnx:l.m.next≤1000000:=hm.2.2.2.2.2
  have e4:(w.alloc (.cells #[dptr lb] 65)).cell? ⟨lb,4,none⟩=some (.slice a l.m.segs.length ca):=cell_of (g0.block 2 rfl) rfl
  have e0:(w.alloc (.cells #[dptr lb] 65)).cell? ⟨w.heap.size,0,none⟩=some (dptr lb):=cell_of (g0.block 0 rfl) rfl
  clear h h1 hm hl ho
  go_enter Tryz.func78,Tryz.ntmps78
  go_upto_region 3 with fail
  go_cut [3] (fun mb wx=>TurnMid l lb bd w.heap.size d F0 w0 R mb wx)
  case first=>
   have HS0:Hid (TurnC w.heap.size lb l a ca (w.alloc (.cells #[dptr lb] 65))):=Lib.hid
    ⟨cell_of (g0.block 0 rfl) rfl,cell_of (g0.block 2 rfl) rfl,cell_of (g0.block 2 rfl) rfl,cell_of (g0.block 2 rfl) rfl⟩
   have HL64:=Lib.hid hlen
   have hw:IntKind.i64.wrap ((l.m.next:Int)+1)=(l.m.next:Int)+1:=IntWalk.i64_in _ (by omega)
   have KA:Hid (Calls Tryz.prog 126 #[.slice (some ⟨w.heap.size+1+1+1,0,none⟩) 2 2] ((((w.alloc (.cells #[dptr lb] 65)).alloc (.cells #[.int .i64 0,.int .i64 0,.slice none 0 0] 104)).alloc (.cells #[.int .i64 l.m.next] 3)).alloc (.cells #[.slice a l.m.segs.length ca,.slice (some ⟨w.heap.size+1+1,0,none⟩) 1 1] 102)).drew _):=Lib.hid
    (turn_KA (mb:=w.heap.size+1) (qb:=w.heap.size+1+1) (pb:=w.heap.size+1+1+1) (bx:=w.heap.size) (lb:=lb) (bd:=bd) (d:=d) hlen (by
     have g:=(((g0.cells #[.int .i64 0,.int .i64 0,.slice none 0 0] 104).cells #[.int .i64 l.m.next] 3).cells #[.slice a l.m.segs.length ca,.slice (some ⟨w.heap.size+1+1,0,none⟩) 1 1] 102).drewN 1
     simp only [World.size_alloc] at g
     exact g.sel2 (R1:=[_,_,_,_,_]) [0,1,4,2,3] (by decide) rfl))
   have KB:Hid (Calls Tryz.prog 126 #[.slice (some ⟨w.heap.size+1+1+1,0,none⟩) 2 2] ((((w.alloc (.cells #[dptr lb] 65)).alloc (.cells #[.int .i64 l.m.next] 3)).alloc (.cells #[.int .i64 0,.int .i64 0,.slice none 0 0] 104)).alloc (.cells #[.slice a l.m.segs.length ca,.slice (some ⟨w.heap.size+1,0,none⟩) 1 1] 102)).drew _):=Lib.hid
    (turn_KA (mb:=w.heap.size+1+1) (qb:=w.heap.size+1) (pb:=w.heap.size+1+1+1) (bx:=w.heap.size) (lb:=lb) (bd:=bd) (d:=d) hlen (by
     have g:=(((g0.cells #[.int .i64 l.m.next] 3).cells #[.int .i64 0,.int .i64 0,.slice none 0 0] 104).cells #[.slice a l.m.segs.length ca,.slice (some ⟨w.heap.size+1,0,none⟩) 1 1] 102).drewN 1
     simp only [World.size_alloc] at g
     exact g.sel2 (R1:=[_,_,_,_,_]) [0,2,4,1,3] (by decide) rfl))
   have KC:Hid (Calls Tryz.prog 126 #[.slice (some ⟨w.heap.size+1+1,0,none⟩) 2 2] ((((w.alloc (.cells #[dptr lb] 65)).alloc (.cells #[.int .i64 l.m.next] 3)).alloc (.cells #[.slice a l.m.segs.length ca,.slice (some ⟨w.heap.size+1,0,none⟩) 1 1] 102)).alloc (.cells #[.int .i64 0,.int .i64 0,.slice none 0 0] 104)).drew _):=Lib.hid
    (turn_KA (mb:=w.heap.size+1+1+1) (qb:=w.heap.size+1) (pb:=w.heap.size+1+1) (bx:=w.heap.size) (lb:=lb) (bd:=bd) (d:=d) hlen (by
     have g:=(((g0.cells #[.int .i64 l.m.next] 3).cells #[.slice a l.m.segs.length ca,.slice (some ⟨w.heap.size+1,0,none⟩) 1 1] 102).cells #[.int .i64 0,.int .i64 0,.slice none 0 0] 104).drewN 1
     simp only [World.size_alloc] at g
     exact g.sel2 (R1:=[_,_,_,_,_]) [1,2,4,0,3] (by decide) rfl))
   have KD:Hid (Calls Tryz.prog 126 #[.slice (some ⟨w.heap.size+1+1,0,none⟩) 2 2] (((w.alloc (.cells #[dptr lb] 65)).alloc (.cells #[.int .i64 l.m.next] 3)).alloc (.cells #[.slice a l.m.segs.length ca,.slice (some ⟨w.heap.size+1,0,none⟩) 1 1] 102)).drew _):=Lib.hid
    (turn_KD (qb:=w.heap.size+1) (pb:=w.heap.size+1+1) (bx:=w.heap.size) (lb:=lb) (bd:=bd) (d:=d) hlen (by
     have g:=((g0.cells #[.int .i64 l.m.next] 3).cells #[.slice a l.m.segs.length ca,.slice (some ⟨w.heap.size+1,0,none⟩) 1 1] 102).drewN 1
     simp only [World.size_alloc] at g
     exact g.sel2 (R1:=[_,_,_,_]) [0,1,3,2] (by decide) rfl))
   have hlb:lb < w.heap.size:=World.block_lt_of_cell? w _ c2
   have n1:¬ w.heap.size+1=lb:=by omega
   have n2:¬ w.heap.size+1+1=lb:=by omega
   have n3:¬ w.heap.size+1+1+1=lb:=by omega
   clear hlb
   clear g0 HG0 HLO HE c2 c3 c4 e4 e0 h64 q hlen hnx
   unfold TurnC at HS0
   obtain⟨s0,s2,s3,s4⟩:=HS0.out
   go_region_held3 (fun w'=>w'.cell? ⟨w.heap.size,0,none⟩=some (dptr lb)∧w'.cell? ⟨lb,2,none⟩=some (.int .i64 l.m.ver)∧w'.cell? ⟨lb,3,none⟩=some (.int .i64 l.m.next)∧w'.cell? ⟨lb,4,none⟩=some (.slice a l.m.segs.length ca)) (first | with_reducible exact HS0.out | with_reducible exact hc1 | ((refine⟨?_,?_,?_,?_⟩ <;> repeat (first | with_reducible exact s0 | with_reducible exact s2 | with_reducible exact s3 | with_reducible exact s4 | with_reducible exact hc1.1 | with_reducible exact hc1.2.1 | with_reducible exact hc1.2.2.1 | with_reducible exact hc1.2.2.2 | rw [World.cell?_drew] | with_reducible refine kp_alloc ?_ | (rw [World.cell?_setCell_far _ _ _ _ (by simp;omega)])));done) | go_keep)
    (first
     | (go_at_call 126
        with_reducible refine KA.out.mono ?_
        rintro e w1 ⟨A,c,rfl,hc1,⟨f0,f1,f2,z0,z1,z2⟩,hmid⟩
        unfold TurnC at hc1
        have HM:=Lib.hid hmid
        clear hmid)
     | (go_at_call 126
        with_reducible refine KB.out.mono ?_
        rintro e w1 ⟨A,c,rfl,hc1,⟨f0,f1,f2,z0,z1,z2⟩,hmid⟩
        unfold TurnC at hc1
        have HM:=Lib.hid hmid
        clear hmid)
     | (go_at_call 126
        with_reducible refine KC.out.mono ?_
        rintro e w1 ⟨A,c,rfl,hc1,⟨f0,f1,f2,z0,z1,z2⟩,hmid⟩
        unfold TurnC at hc1
        have HM:=Lib.hid hmid
        clear hmid)
     | (go_at_call 126
        with_reducible refine KD.out.mono ?_
        rintro e w1 ⟨A,c,rfl,hc1,hmid⟩
        unfold TurnC at hc1
        have HM:=Lib.hid hmid
        clear hmid))
   all_goals (go_wp2_with fail;go_meet;exact HM.out)
  case rest=>
   obtain⟨mb,A,c,rfl,hx⟩:=hcut
   have d0:wc.cell? ⟨w.heap.size,0,none⟩=some (dptr lb):=cell_of (hx.block 4 rfl) rfl
   have d3:wc.cell? ⟨lb,3,none⟩=some (.int .i64 l.m.next):=(hx.sel2 (R1:=[_,_,_,_,_]) [2,3,4,0,1] (by decide) rfl).lg3
   have C1:=Lib.hid (o_name hx l.m.next (by omega))
   clear hx e4 e0 c2 c3 c4 g0 HG0 q h64
   go_wp2_with fail
   refine C1.out.mono ?_
   rintro e w1 ⟨rfl,g1⟩
   have g2:=g1.cells #[.string (segName l.m.next)] 9
   have g3:=g2.cells #[.func (.func 127) #[] #[.pointer (some ⟨w.heap.size,0,none⟩)],.func (.func 128) #[] #[.pointer (some ⟨w.heap.size,0,none⟩)],.func (.func 129) #[] #[.pointer (some ⟨w.heap.size,0,none⟩),.pointer (some ⟨w1.heap.size,0,none⟩)],.func (.func 130) #[] #[.pointer (some ⟨w.heap.size,0,none⟩),.pointer (some ⟨mb,0,none⟩)]] 54
   simp only [World.size_alloc] at g3
   have K:=turn_all (R:=R) (nb:=w1.heap.size) (mb:=mb) (bx:=w.heap.size) (fb:=w1.heap.size+1) (A:=A) (c:=c) HLO.out.1 HLO.out.2 _ rfl (g3.sel2 (R1:=[_,_,_,_,_,_,_]) [0,4,5,3,1,2,6] (by decide) rfl)
   rw [HE.out] at K
   have KH:=Lib.hid K
   clear K g1 g2 g3 C1 HLO HE
   go_wp2_with fail
   refine KH.out.mono ?_
   rintro e w2 ⟨rfl,g4⟩
   have G:=Lib.hid g4
   clear g4 KH
   go_wp2_with fail
   go_ret
   exact⟨rfl,G.out⟩
end
theorem bytesD_le {d:DiskD} (h:DiskOk d) (n:ByteArray):bytesD d n≤1048576:=by
 unfold bytesD dRead
 cases e:nmAt d.now n with
 | none=>simp
 | some k=>
  have hk:=h.at e
  have:=(h.file (d.files.getD k default) (by rw [List.getD_eq_getElem?_getD,List.getElem?_eq_getElem hk];exact List.getElem_mem hk)).1
  simpa using this
section
variable {F0:List Nat} {w0 w:World} {R:List Asrt} {bd lb:Nat} {d:DiskD} {l:LogD}
theorem In.dk (h:In F0 w0 w (LgA lb bd l::DkA bd d::R)):DiskOk d:=by
 obtain⟨F,hF⟩:=h.get 1 rfl
 exact hF.1
def fitOr (n:Nat) (t:DL):DL×Int:=if fitsL t.2 (bytesD t.1 (lastS t.2)) n then (t,0) else turnL t
theorem o_app1 (h:In F0 w0 w (LgA lb bd l::DkA bd d::R)) (hl:LgOk l) (ho:d.ops≤99999900) {bx nb n c:Nat} {a:Option Addr} (hn:n≤10000000) (j k:Nat) (hj:R[j]?=some (Cells bx #[dptr lb] 65)) (hk:R[k]?=some (Cells nb #[.slice a n c] 41)) :
  Calls Tryz.prog 74 #[.pointer (some ⟨bx,0,none⟩),.pointer (some ⟨nb,0,none⟩)] w fun e w'=>e=.returned (.int .i64 (fitOr n (d,l)).2)∧In F0 w0 w' (LgA lb bd (fitOr n (d,l)).1.2::DkA bd (fitOr n (d,l)).1.1::R):=by
 have HP:Hid (∀ w' d' l',In F0 w0 w' (LgA lb bd l'::DkA bd d'::R)→w'.cell? ⟨bx,0,none⟩=some (dptr lb)∧w'.cell? ⟨nb,0,none⟩=some (.slice a n c)):=Lib.hid fun w' d' l' h'=>⟨cell_of (h'.block (j+2) hj) rfl,cell_of (h'.block (k+2) hk) rfl⟩
 have HW:=Lib.hid (HP.out w d l h)
 have hb:=bytesD_le h.dk (lastS l)
 have C1:=Lib.hid (fun n=>o_last (h.drewN n) hl)
 have C2:=Lib.hid (fun w' (h':In F0 w0 w' (LgA lb bd l::DkA bd d::R))=>o_bytes h' (lastS l) (segName_size _))
 have C3:=Lib.hid (fun w' (h':In F0 w0 w' (LgA lb bd l::DkA bd d::R))=>o_fits h' (bytesD d (lastS l)) n (by omega) (by omega) hl.2.1)
 have C4:=Lib.hid (fun w' (h':In F0 w0 w' (LgA lb bd l::DkA bd d::R))=>o_turn h' hl ho)
 have HE:Hid (fitOr n (d,l)=if fitsL l (bytesD d (lastS l)) n then ((d,l),0) else turnL (d,l)):=Lib.hid rfl
 clear h hj hk hl ho hn
 generalize bytesD d (lastS l)=x at *
 cases hq:fitsL l x n with
 | true=>
  rw [hq] at HE C3
  clear C4
  go_enter Tryz.func74,Tryz.ntmps74
  go_wp2_with fail
  go_region_held3 (fun w'=>w'.cell? ⟨bx,0,none⟩=some (dptr lb)∧w'.cell? ⟨nb,0,none⟩=some (.slice a n c)) (first | exact HW.out | exact hc3 | exact hc2 | exact hc1) (first
   | (go_at_call 77;refine (C1.out 1).mono ?_;rintro e w1 ⟨rfl,g1⟩;have hc1:=HP.out w1 _ _ g1;have K2:=Lib.hid (C2.out w1 g1);clear g1)
   | (go_at_call 76;refine K2.out.mono ?_;rintro e w2 ⟨rfl,g2⟩;have hc2:=HP.out w2 _ _ g2;have K3:=Lib.hid (C3.out w2 g2);have G:=Lib.hid g2;clear g2)
   | (go_at_call 75;refine K3.out.mono ?_;rintro e w3 ⟨rfl,rfl⟩;have hc3:=HP.out _ _ _ G.out))
  go_wp2_with fail
  go_ret
  exact⟨by rw [HE.out];rfl,by rw [HE.out];exact G.out⟩
 | false=>
  rw [hq] at HE C3
  go_enter Tryz.func74,Tryz.ntmps74
  go_wp2_with fail
  go_region_held3 (fun w'=>w'.cell? ⟨bx,0,none⟩=some (dptr lb)∧w'.cell? ⟨nb,0,none⟩=some (.slice a n c)) (first | exact HW.out | exact hc3 | exact hc2 | exact hc1) (first
   | (go_at_call 77;refine (C1.out 1).mono ?_;rintro e w1 ⟨rfl,g1⟩;have hc1:=HP.out w1 _ _ g1;have K2:=Lib.hid (C2.out w1 g1);clear g1)
   | (go_at_call 76;refine K2.out.mono ?_;rintro e w2 ⟨rfl,g2⟩;have hc2:=HP.out w2 _ _ g2;have K3:=Lib.hid (C3.out w2 g2);have G:=Lib.hid g2;clear g2)
   | (go_at_call 75;refine K3.out.mono ?_;rintro e w3 ⟨rfl,rfl⟩;have hc3:=HP.out _ _ _ G.out;have K4:=Lib.hid (C4.out _ G.out)))
  obtain⟨e0,e1⟩:=hc3
  clear C1 C2 C3 C4 K2 K3 hc1 hc2 G
  go_wp2_with fail
  refine K4.out.mono ?_
  rintro e w4 ⟨rfl,g4⟩
  have G4:=Lib.hid g4
  clear g4
  go_wp2_with fail
  go_ret
  exact⟨by rw [HE.out];rfl,by rw [HE.out];exact G4.out⟩
theorem o_app2 (h:In F0 w0 w (LgA lb bd l::DkA bd d::R)) (hl:LgOk l) (ho:d.ops≤100000000) {bx nb c:Nat} {a:Option Addr} {bs:List UInt8} (hn:bs.length≤10000000) (j k m:Nat) (hj:R[j]?=some (Cells bx #[dptr lb] 65)) (hk:R[k]?=some (Cells nb #[.slice a bs.length c] 41)) (hB:R[m]?=some (RowA 5 1 (.slice a bs.length c) bs.length (u8s bs))) :
  Calls Tryz.prog 79 #[.pointer (some ⟨bx,0,none⟩),.pointer (some ⟨nb,0,none⟩)] w fun e w'=>e=.returned (.int .i64 (dAppend d (lastS l) bs).2)∧In F0 w0 w' (LgA lb bd l::DkA bd (dAppend d (lastS l) bs).1::R):=by
 have HP:Hid (∀ w' d' l',In F0 w0 w' (LgA lb bd l'::DkA bd d'::R)→w'.cell? ⟨bx,0,none⟩=some (dptr lb)∧w'.cell? ⟨nb,0,none⟩=some (.slice a bs.length c)∧w'.cell? ⟨lb,0,none⟩=some (dptr bd)):=Lib.hid fun w' d' l' h'=>⟨cell_of (h'.block (j+2) hj) rfl,cell_of (h'.block (k+2) hk) rfl,h'.lg0⟩
 have HW:=Lib.hid (HP.out w d l h)
 have C1:=Lib.hid (fun n=>o_last (h.drewN n) hl)
 have C2:=Lib.hid (fun w' (h':In F0 w0 w' (LgA lb bd l::DkA bd d::R))=>o_dappend h' 1 rfl ho (lastS l) (segName_size _) (m+2) (by omega) hB hn)
 clear h hj hk hl ho hn hB
 go_enter Tryz.func79,Tryz.ntmps79
 go_wp2_with fail
 go_region_held3 (fun w'=>w'.cell? ⟨bx,0,none⟩=some (dptr lb)∧w'.cell? ⟨nb,0,none⟩=some (.slice a bs.length c)∧w'.cell? ⟨lb,0,none⟩=some (dptr bd)) (first | exact HW.out | exact hc2 | exact hc1) (first
  | (go_at_call 77;refine (C1.out 1).mono ?_;rintro e w1 ⟨rfl,g1⟩;have hc1:=HP.out w1 _ _ g1;have K2:=Lib.hid (C2.out w1 g1);clear g1)
  | (go_at_call 80;refine K2.out.mono ?_;rintro e w2 ⟨rfl,g2⟩;have hc2:=HP.out w2 _ _ g2;have G:=Lib.hid g2;clear g2))
 go_wp2_with fail
 go_ret
 exact⟨rfl,G.out⟩
theorem o_sync1 (h:In F0 w0 w (LgA lb bd l::DkA bd d::R)) (hl:LgOk l) (ho:d.ops≤100000000) {bx:Nat} (j:Nat) (hj:R[j]?=some (Cells bx #[dptr lb] 65)) :
  Calls Tryz.prog 95 #[.pointer (some ⟨bx,0,none⟩)] w fun e w'=>e=.returned (.int .i64 (dSync d (lastS l)).2)∧In F0 w0 w' (LgA lb bd l::DkA bd (dSync d (lastS l)).1::R):=by
 have HP:Hid (∀ w' d',In F0 w0 w' (LgA lb bd l::DkA bd d'::R)→w'.cell? ⟨bx,0,none⟩=some (dptr lb)∧w'.cell? ⟨lb,0,none⟩=some (dptr bd)):=Lib.hid fun w' d' h'=>⟨cell_of (h'.block (j+2) hj) rfl,h'.lg0⟩
 have HW:=Lib.hid (HP.out w d h)
 have C1:=Lib.hid (fun n=>o_last (h.drewN n) hl)
 have C2:=Lib.hid (fun w' (h':In F0 w0 w' (LgA lb bd l::DkA bd d::R))=>o_dsync h' 1 rfl ho (lastS l) (segName_size _))
 clear h hj hl
 go_enter Tryz.func95,Tryz.ntmps95
 go_wp2_with fail
 go_region_held3 (fun w'=>w'.cell? ⟨bx,0,none⟩=some (dptr lb)∧w'.cell? ⟨lb,0,none⟩=some (dptr bd)) (first | exact HW.out | exact hc2 | exact hc1) (first | (go_at_call 77;refine (C1.out 1).mono ?_;rintro e w1 ⟨rfl,g1⟩;have hc1:=HP.out w1 _ g1;have K2:=Lib.hid (C2.out w1 g1);clear g1) | (go_at_call 47;refine K2.out.mono ?_;rintro e w2 ⟨rfl,g2⟩;have hc2:=HP.out w2 _ g2;have G:=Lib.hid g2;clear g2))
 go_wp2_with fail
 go_ret
 exact⟨rfl,G.out⟩
end
theorem thenD_inv {σ:Type} {P:σ→Prop} {r:σ×Int} {f:σ→σ×Int} (h:P r.1) (hf:∀ s,P s→P (f s).1):P (thenD r f).1:=by
 unfold thenD;split
 ·exact hf _ h
 ·exact h
theorem thenD_le {σ:Type} {μ:σ→Nat} {r:σ×Int} {f:σ→σ×Int} {a b:Nat} (h:μ r.1≤a) (hf:∀ s,μ (f s).1≤μ s+b):μ (thenD r f).1≤a+b:=by
 unfold thenD;split
 ·have:=hf r.1;omega
 ·omega
theorem settleL_ok {s:DL} (h:LgOk s.2):LgOk (settleL s).1.2:=by
 unfold settleL;split
 ·exact h
 ·exact h
theorem settleL_ops (s:DL):(settleL s).1.1.ops≤s.1.ops+1:=by
 unfold settleL;split
 ·exact dDir_ops s.1
 ·simp
theorem commitD_may {m:ManD} {d:DiskD} (h:(commitD m d).2.1=true):mayM m=true:=by
 unfold commitD at h;split at h
 ·cases h
 ·rename_i hm;simpa using hm
theorem adoptL_ok {m:ManD} {s:DL} (h:LgOk s.2):LgOk (adoptL m s).1.2:=by
 unfold adoptL
 simp only
 split
 ·rename_i hc
  exact⟨h.1,h.2.1,commitD_may hc⟩
 ·exact h
theorem turnL_ok {s:DL} (h:LgOk s.2):LgOk (turnL s).1.2:=by
 unfold turnL;split
 ·exact h
 ·refine thenD_inv (P:=fun t:DL=>LgOk t.2) (thenD_inv (P:=fun t:DL=>LgOk t.2) (thenD_inv (P:=fun t:DL=>LgOk t.2) h fun t ht=>ht) fun t ht=>ht) fun t ht=>?_
  exact adoptL_ok ht
theorem turnL_ops (s:DL):(turnL s).1.1.ops≤s.1.ops+9:=by
 unfold turnL;split
 ·show s.1.ops≤_;omega
 ·have h1:=dSync_ops s.1 (lastS s.2)
  exact thenD_le (μ:=fun t:DL=>t.1.ops) (a:=s.1.ops+4) (b:=5) (thenD_le (μ:=fun t:DL=>t.1.ops) (a:=s.1.ops+3) (b:=1) (thenD_le (μ:=fun t:DL=>t.1.ops) (a:=s.1.ops+1) (b:=2) h1 fun t=>beginD_ops _ t.1) fun t=>dSync_ops t.1 _) fun t=>commitD_ops _ t.1
theorem fitOr_ok {n:Nat} {s:DL} (h:LgOk s.2):LgOk (fitOr n s).1.2:=by
 unfold fitOr;split
 ·exact h
 ·exact turnL_ok h
theorem fitOr_ops (n:Nat) (s:DL):(fitOr n s).1.1.ops≤s.1.ops+9:=by
 unfold fitOr;split
 ·show s.1.ops≤_;omega
 ·exact turnL_ops s
def appFs (b:List UInt8):List (DL→DL×Int):=[settleL,fitOr b.length,fun t=>onDisk (fun d=>dAppend d (lastS t.2) b) t]
theorem appendL_fold (kind:Int) (body:List UInt8) (s:DL) (h:putErr kind s.2.m.ver body.length=0):appendL kind body s=foldD (appFs (frBytes ⟨kind.toNat,s.2.m.ver,body⟩)) s:=by
 unfold appendL;rw [if_neg (by rw [h];simp)];rfl
theorem appendL_ops (kind:Int) (body:List UInt8) (s:DL):(appendL kind body s).1.1.ops≤s.1.ops+11:=by
 unfold appendL;split
 ·show s.1.ops≤_;omega
 ·exact thenD_le (μ:=fun t:DL=>t.1.ops) (a:=s.1.ops+10) (b:=1) (thenD_le (μ:=fun t:DL=>t.1.ops) (a:=s.1.ops+1) (b:=9) (settleL_ops s) fun t=>fitOr_ops _ t) fun t=>dApp_ops t.1 _ _
section
variable {F0:List Nat} {w0 w:World} {R:List Asrt} {bd lb:Nat} {d:DiskD} {l:LogD}
theorem app_all {fb bx nb c:Nat} {a:Option Addr} {b:List UInt8} (hl:LgOk l) (ho:d.ops≤99999000) (hb:b.length≤10000000)
  (fs:List (FuncId×Array Value×Array Value)) (hfs:fs=[(73,#[dptr lb],#[]),(74,#[],#[.pointer (some ⟨bx,0,none⟩),.pointer (some ⟨nb,0,none⟩)]),(79,#[],#[.pointer (some ⟨bx,0,none⟩),.pointer (some ⟨nb,0,none⟩)])])
  (h:In F0 w0 w (Cells fb (fs.map fnV3).toArray 54::LgA lb bd l::DkA bd d::RowA 5 1 (.slice a b.length c) b.length (u8s b)::Cells nb #[.slice a b.length c] 41::Cells bx #[dptr lb] 65::R)) :
  Calls Tryz.prog 43 #[.slice (some ⟨fb,0,none⟩) 3 3] w fun e w'=>e=.returned (.int .i64 (foldD (appFs b) (d,l)).2)∧In F0 w0 w' (LgA lb bd (foldD (appFs b) (d,l)).1.2::DkA bd (foldD (appFs b) (d,l)).1.1::R):=by
 have hent1:∀ args w',(callFunc 73 args).run Tryz.prog w'=.ok (.enter 73 args) w':=enters_of Tryz.func73 (by kernel_rfl) rfl
 have hent2:∀ args w',(callFunc 74 args).run Tryz.prog w'=.ok (.enter 74 args) w':=enters_of Tryz.func74 (by kernel_rfl) rfl
 have hent3:∀ args w',(callFunc 79 args).run Tryz.prog w'=.ok (.enter 79 args) w':=enters_of Tryz.func79 (by kernel_rfl) rfl
 have hlen:fs.length=3:=by rw [hfs];rfl
 have key:=all_fn3 (F0:=F0) (w0:=w0) (w:=w) (fun k (s:DL)=>LgOk s.2∧s.1.ops≤99999000+10 * k)
  (fun s=>LgA lb bd s.2::DkA bd s.1::RowA 5 1 (.slice a b.length c) b.length (u8s b)::Cells nb #[.slice a b.length c] 41::Cells bx #[dptr lb] 65::R) fb 54 (appFs b) fs (by rw [hlen];rfl) (by omega) (d,l) 3
  ⟨hl,by simp only;omega⟩
  (fun k f hf s hI=>by
   rcases k with _ | _ | _ | k
   ·cases hf;exact⟨settleL_ok hI.1,by have:=settleL_ops s;omega⟩
   ·cases hf;exact⟨fitOr_ok hI.1,by have:=fitOr_ops b.length s;omega⟩
   ·cases hf;exact⟨hI.1,by have:=dApp_ops s.1 (lastS s.2) b;show (dAppend s.1 (lastS s.2) b).1.ops≤_;omega⟩
   ·simp [appFs] at hf)
  (fun f hf=>by
   rw [hfs] at hf
   simp only [List.mem_cons,List.not_mem_nil,or_false] at hf
   rcases hf with rfl | rfl | rfl
   ·exact hent1
   ·exact hent2
   ·exact hent3)
  (fun k f g hf hg w' s hI h'=>by
   rw [hfs] at hf
   obtain⟨d1,l1⟩:=s
   obtain⟨i1,i2⟩:=hI
   simp only at i1 i2
   rcases k with _ | _ | _ | k
   ·cases hf;cases hg
    have:=o_settle (h'.sel2 (R1:=[_,_,_]) [1,2,0] (by decide) rfl) (by simp only;omega)
    exact this.mono fun e w'' ⟨he,hw⟩=>⟨he,hw.sel2 (R1:=[_,_,_]) [2,0,1] (by decide) rfl⟩
   ·cases hf;cases hg
    have:=o_app1 (n:=b.length) (h'.sel2 (R1:=[_,_,_]) [1,2,0] (by decide) rfl) i1 (by simp only;omega) (bx:=bx) (nb:=nb) (a:=a) (c:=c) hb 3 2 rfl rfl
    exact this.mono fun e w'' ⟨he,hw⟩=>⟨he,hw.sel2 (R1:=[_,_,_]) [2,0,1] (by decide) rfl⟩
   ·cases hf;cases hg
    have:=o_app2 (bs:=b) (h'.sel2 (R1:=[_,_,_]) [1,2,0] (by decide) rfl) i1 (by simp only;omega) (bx:=bx) (nb:=nb) (a:=a) (c:=c) hb 3 2 1 rfl rfl rfl
    exact this.mono fun e w'' ⟨he,hw⟩=>⟨he,hw.sel2 (R1:=[_,_,_]) [2,0,1] (by decide) rfl⟩
   ·simp at hf) h
 rw [hlen] at key
 exact key.mono fun e w' ⟨he,hw⟩=>⟨he,hw.drop.sel2 (R1:=[_,_,_,_,_]) [0,1] (by decide) rfl⟩
theorem o_append (h:In F0 w0 w (LgA lb bd l::DkA bd d::R)) (hl:LgOk l) (ho:d.ops≤99999000) (kind:Int) {A:Option Addr} {c:Nat} {body:List UInt8} (hlen:body.length≤9000000) (hs:∀ w',In F0 w0 w' R→Src w' A body.length 1 (u8s body)) :
  Calls Tryz.prog 27 #[dptr lb,.int .i64 kind,.slice A body.length c] w fun e w'=>e=.returned (.int .i64 (appendL kind body (d,l)).2)∧In F0 w0 w' (LgA lb bd (appendL kind body (d,l)).1.2::DkA bd (appendL kind body (d,l)).1.1::R):=by
 obtain⟨a,ca,h0⟩:=h.lgOpen
 have c2:(w.alloc (.cells #[dptr lb] 65)).cell? ⟨lb,2,none⟩=some (.int .i64 l.m.ver):=kp_alloc (cell_of (h0.block 1 rfl) rfl)
 have h1:=h.cells #[dptr lb] 65
 have C1:=Lib.hid (o_frput h1 kind l.m.ver (A:=A) (c:=c) (body:=body) (by omega) (fun w' h'=>hs w' h'.drop.drop.drop))
 clear h h0 h1 hs
 by_cases hz:putErr kind l.m.ver body.length=0
 ·have HE:=Lib.hid (show appendL kind body (d,l)=foldD (appFs (frBytes ⟨kind.toNat,l.m.ver,body⟩)) (d,l) from appendL_fold kind body (d,l) hz)
  have HPB:Hid (putB kind l.m.ver body=frBytes ⟨kind.toNat,l.m.ver,body⟩):=Lib.hid (by unfold putB;rw [if_pos hz];simp)
  have HZ:=Lib.hid hz
  have HBL:Hid ((frBytes ⟨kind.toNat,l.m.ver,body⟩).length≤10000000):=Lib.hid (by rw [frBytes_length];show 16+body.length≤_;omega)
  have HLO:=Lib.hid (And.intro hl ho)
  clear hz hl ho hlen
  go_enter Tryz.func27,Tryz.ntmps27
  go_wp2_with fail
  refine C1.out.mono ?_
  rintro e w1 ⟨v,rfl,g1⟩
  rw [HZ.out]
  rw [HPB.out] at g1
  generalize frBytes ⟨kind.toNat,l.m.ver,body⟩=b at *
  obtain⟨F1,r1⟩:=g1.get 0 rfl
  obtain⟨a1,c1,rfl,-,-,-⟩:=r1.shape
  have d0:(w1.alloc (.cells #[.slice a1 b.length c1] 41)).cell? ⟨w.heap.size,0,none⟩=some (dptr lb):=kp_alloc (cell_of (g1.block 1 rfl) rfl)
  have g2:=g1.cells #[.slice a1 b.length c1] 41
  have g3:=g2.cells #[.func (.func 73) #[dptr lb] #[],.func (.func 74) #[] #[.pointer (some ⟨w.heap.size,0,none⟩),.pointer (some ⟨w1.heap.size,0,none⟩)],.func (.func 79) #[] #[.pointer (some ⟨w.heap.size,0,none⟩),.pointer (some ⟨w1.heap.size,0,none⟩)]] 54
  simp only [World.size_alloc] at g3
  have K:=app_all (R:=R) (bx:=w.heap.size) (nb:=w1.heap.size) (fb:=w1.heap.size+1) HLO.out.1 HLO.out.2 HBL.out _ rfl (g3.sel2 (R1:=[_,_,_,_,_,_]) [0,4,5,2,1,3] (by decide) rfl)
  rw [← HE.out] at K
  have KH:=Lib.hid K
  clear K g1 g2 g3 r1 C1 HLO HE HPB HZ HBL
  go_wp2_with fail
  refine KH.out.mono ?_
  rintro e w2 ⟨rfl,g4⟩
  have G:=Lib.hid g4
  clear g4 KH
  go_wp2_with fail
  go_ret
  exact⟨rfl,G.out⟩
 ·have HE:Hid (appendL kind body (d,l)=((d,l),putErr kind l.m.ver body.length)):=Lib.hid (by unfold appendL;rw [if_pos hz])
  have q:(putErr kind l.m.ver body.length != 0)=true:=by rw [bne_iff_ne];exact hz
  clear hz hl ho hlen
  go_enter Tryz.func27,Tryz.ntmps27
  go_wp2_with fail
  refine C1.out.mono ?_
  rintro e w1 ⟨v,rfl,g1⟩
  obtain⟨F1,r1⟩:=g1.get 0 rfl
  obtain⟨a1,c1,rfl,-,-,-⟩:=r1.shape
  have G:=Lib.hid ((g1.alloc (.cells #[.slice a1 (putB kind l.m.ver body).length c1] 41)).drop.drop)
  clear g1 r1 C1
  go_wp2_with fail
  go_ret
  exact⟨by rw [HE.out];rfl,by rw [HE.out];exact G.out⟩
def syncFs:List (DL→DL×Int):=[settleL,fun t=>onDisk (fun d=>dSync d (lastS t.2)) t]
theorem sync_all {fb bx:Nat} (hl:LgOk l) (ho:d.ops≤99999000)
  (fs:List (FuncId×Array Value×Array Value)) (hfs:fs=[(73,#[dptr lb],#[]),(95,#[],#[.pointer (some ⟨bx,0,none⟩)])])
  (h:In F0 w0 w (Cells fb (fs.map fnV3).toArray 54::LgA lb bd l::DkA bd d::Cells bx #[dptr lb] 65::R)) :
  Calls Tryz.prog 43 #[.slice (some ⟨fb,0,none⟩) 2 2] w fun e w'=>e=.returned (.int .i64 (syncL (d,l)).2)∧In F0 w0 w' (LgA lb bd (syncL (d,l)).1.2::DkA bd (syncL (d,l)).1.1::R):=by
 have hent1:∀ args w',(callFunc 73 args).run Tryz.prog w'=.ok (.enter 73 args) w':=enters_of Tryz.func73 (by kernel_rfl) rfl
 have hent2:∀ args w',(callFunc 95 args).run Tryz.prog w'=.ok (.enter 95 args) w':=enters_of Tryz.func95 (by kernel_rfl) rfl
 have hlen:fs.length=2:=by rw [hfs];rfl
 have key:=all_fn3 (F0:=F0) (w0:=w0) (w:=w) (fun k (s:DL)=>LgOk s.2∧s.1.ops≤99999000+10 * k)
  (fun s=>LgA lb bd s.2::DkA bd s.1::Cells bx #[dptr lb] 65::R) fb 54 syncFs fs (by rw [hlen];rfl) (by omega) (d,l) 2
  ⟨hl,by simp only;omega⟩
  (fun k f hf s hI=>by
   rcases k with _ | _ | k
   ·cases hf;exact⟨settleL_ok hI.1,by have:=settleL_ops s;omega⟩
   ·cases hf;exact⟨hI.1,by have:=dSync_ops s.1 (lastS s.2);show (dSync s.1 (lastS s.2)).1.ops≤_;omega⟩
   ·simp [syncFs] at hf)
  (fun f hf=>by
   rw [hfs] at hf
   simp only [List.mem_cons,List.not_mem_nil,or_false] at hf
   rcases hf with rfl | rfl
   ·exact hent1
   ·exact hent2)
  (fun k f g hf hg w' s hI h'=>by
   rw [hfs] at hf
   obtain⟨d1,l1⟩:=s
   obtain⟨i1,i2⟩:=hI
   simp only at i1 i2
   rcases k with _ | _ | k
   ·cases hf;cases hg
    have:=o_settle (h'.sel2 (R1:=[_,_,_]) [1,2,0] (by decide) rfl) (by simp only;omega)
    exact this.mono fun e w'' ⟨he,hw⟩=>⟨he,hw.sel2 (R1:=[_,_,_]) [2,0,1] (by decide) rfl⟩
   ·cases hf;cases hg
    have:=o_sync1 (h'.sel2 (R1:=[_,_,_]) [1,2,0] (by decide) rfl) i1 (by simp only;omega) (bx:=bx) 1 rfl
    exact this.mono fun e w'' ⟨he,hw⟩=>⟨he,hw.sel2 (R1:=[_,_,_]) [2,0,1] (by decide) rfl⟩
   ·simp at hf) h
 rw [hlen] at key
 exact key.mono fun e w' ⟨he,hw⟩=>⟨he,hw.drop.sel2 (R1:=[_,_,_]) [0,1] (by decide) rfl⟩
theorem o_lsync (h:In F0 w0 w (LgA lb bd l::DkA bd d::R)) (hl:LgOk l) (ho:d.ops≤99999000) :
  Calls Tryz.prog 37 #[dptr lb] w fun e w'=>e=.returned (.int .i64 (syncL (d,l)).2)∧In F0 w0 w' (LgA lb bd (syncL (d,l)).1.2::DkA bd (syncL (d,l)).1.1::R):=by
 have g3:=(h.cells #[dptr lb] 65).cells #[.func (.func 73) #[dptr lb] #[],.func (.func 95) #[] #[.pointer (some ⟨w.heap.size,0,none⟩)]] 54
 simp only [World.size_alloc] at g3
 have KH:=Lib.hid (sync_all (R:=R) (bx:=w.heap.size) (fb:=w.heap.size+1) hl ho _ rfl (g3.sel2 (R1:=[_,_,_,_]) [0,2,3,1] (by decide) rfl))
 clear h g3
 go_enter Tryz.func37,Tryz.ntmps37
 go_wp2_with fail
 refine KH.out.mono ?_
 rintro e w2 ⟨rfl,g4⟩
 have G:=Lib.hid g4
 clear g4 KH
 go_wp2_with fail
 go_ret
 exact⟨rfl,G.out⟩
end
end Go.Proofs.YtpmmiljakbojaaaGreat
