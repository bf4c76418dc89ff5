/- Parts of the proofs that a compaction keeps what lives, and done again is as once. -/
import Derived.Test.YtogclkhpbjfadaaGreatCK26
import Derived.Deep.DeepCutAuto
import Derived.Test.YtogclkhpbjfadaaGreatCK7
namespace Go.Proofs.YtogclkhpbjfadaaGreat
open Go.RowKit
set_option linter.unusedVariables false
set_option maxHeartbeats 64000000
set_option maxRecDepth 100000
section
variable {F0:List Nat} {w0 w:World} {R:List az} {bd lb:Nat} {d:ae} {l:bK}
theorem In.Ld (h:In F0 w0 w (eB lb bd l::R)):w.cell? ⟨lb,0,none⟩=some (aD bd):=by
 obtain⟨a,c,h1⟩:=h.lX
 exact cell_of (h1.block 1 rfl) rfl
theorem In.lg3 (h:In F0 w0 w (eB lb bd l::R)):w.cell? ⟨lb,3,none⟩=some (.int .i64 l.m.next):=by
 obtain⟨a,c,h1⟩:=h.lX
 exact cell_of (h1.block 1 rfl) rfl
theorem yX {a:Option Addr} {ca pb qb nx:Nat} {s:List Nat} (h:In F0 w0 w (Cells pb #[.slice a s.length ca,.slice (some ⟨qb,0,none⟩) 1 1] 43::Cells qb #[.int .i64 nx] 3::lZ a ca s::R)) (hs:s.length≤1000) :
  Calls Tryz.prog 159 #[.slice (some ⟨pb,0,none⟩) 2 2] w fun e w'=>∃ A c,e=.returned (.slice A (s++[nx]).length c)∧In F0 w0 w' (lZ A c (s++[nx])::lZ a ca s::R):=by
 have e1:fQ [(a,ca,s),(some ⟨qb,0,none⟩,1,[nx])]=s++[nx]:=by simp [fQ]
 refine (RY (R:=Cells qb #[.int .i64 nx] 3::lZ a ca s::R) (ps:=[(a,ca,s),(some ⟨qb,0,none⟩,1,[nx])]) (c:=2) h (by simp) (by rw [e1];simp) (by rw [e1];simp;omega) (fun p hp w' h'=>?_)).mono fun e w' ⟨v,he,h'⟩=>?_
 ·simp only [List.mem_cons,List.not_mem_nil,or_false] at hp
  rcases hp with rfl | rfl
  ·obtain⟨F',r'⟩:=h'.get 1 rfl
   exact r'.all
  ·exact Src.of_block (h'.block 0 rfl) rfl
 ·rw [e1] at h'
  obtain⟨F',r'⟩:=h'.get 0 rfl
  obtain⟨A,c,rfl,-,-,-⟩:=r'.shape
  exact⟨A,c,he,h'.aI (R1:=[_,_,_]) [0,2] (by decide) rfl⟩
def FQ (l:bK) (lb bd bx:Nat) (d:ae) (F0:List Nat) (w0:World) (R:List az) (v:Value) (wx:World):Prop:=
 ∃ mb A c,v=.pointer (some ⟨mb,0,none⟩)∧In F0 w0 wx (Cells mb #[.int .i64 l.m.aj,.int .i64 (l.m.next+1:Nat),.slice A (l.m.aa++[l.m.next]).length c] 111::lZ A c (l.m.aa++[l.m.next])::eB lb bd l::bJ bd d::Cells bx #[aD lb] 28::R)
theorem Vs (h:In F0 w0 w (eB lb bd l::bJ bd d::R)) (hl:gH l) (ho:d.ops≤100000000) {bx:Nat} (j:Nat) (hj:R[j]?=some (Cells bx #[aD lb] 28)) :
  Calls Tryz.prog 160 #[.pointer (some ⟨bx,0,none⟩)] w fun e w'=>e=.returned (.int .i64 (aW d (bA l)).2)∧In F0 w0 w' (eB lb bd l::bJ bd (aW d (bA l)).1::R):=by
 have HP:Hid (∀ w' d',In F0 w0 w' (eB lb bd l::bJ bd d'::R)→w'.cell? ⟨bx,0,none⟩=some (aD lb)∧w'.cell? ⟨lb,0,none⟩=some (aD bd)):=Lib.hid fun w' d' h'=>⟨cell_of (h'.block (j+2) hj) rfl,h'.Ld⟩
 have HW:=Lib.hid (HP.out w d h)
 have C1:=Lib.hid (fun n=>yt (h.drewN n) hl)
 have C2:=Lib.hid (fun w' (h':In F0 w0 w' (eB lb bd l::bJ bd d::R))=>oU h' 1 rfl ho (bA l) (df _))
 clear h hj hl
 go_enter Tryz.func160,Tryz.ntmps160
 go_wp2_with fail
 go_region_held3 (fun w'=>w'.cell? ⟨bx,0,none⟩=some (aD lb)∧w'.cell? ⟨lb,0,none⟩=some (aD bd)) (first | exact HW.out | exact hc2 | exact hc1) (first | (go_at_call 74;refine (C1.out 1).mono ?_;rintro e w1 ⟨rfl,g1⟩;have hc1:=HP.out w1 _ g1;have K2:=Lib.hid (C2.out w1 g1);clear g1) | (go_at_call 64;refine K2.out.mono ?_;rintro e w2 ⟨rfl,g2⟩;have hc2:=HP.out w2 _ g2;have G:=Lib.hid g2;clear g2))
 go_wp2_with fail
 go_ret
 exact⟨rfl,G.out⟩
theorem Vt (h:In F0 w0 w (eB lb bd l::bJ bd d::R)) (hl:gH l) (ho:d.ops≤99999990) {bx:Nat} (j:Nat) (hj:R[j]?=some (Cells bx #[aD lb] 28)) :
  Calls Tryz.prog 161 #[.pointer (some ⟨bx,0,none⟩)] w fun e w'=>e=.returned (.int .i64 (dK l.m.next d).2)∧In F0 w0 w' (eB lb bd l::bJ bd (dK l.m.next d).1::R):=by
 have HP:Hid (∀ w' d',In F0 w0 w' (eB lb bd l::bJ bd d'::R)→w'.cell? ⟨bx,0,none⟩=some (aD lb)∧w'.cell? ⟨lb,0,none⟩=some (aD bd)∧w'.cell? ⟨lb,3,none⟩=some (.int .i64 l.m.next)):=Lib.hid fun w' d' h'=>⟨cell_of (h'.block (j+2) hj) rfl,h'.Ld,h'.lg3⟩
 have HW:=Lib.hid (HP.out w d h)
 have hn:=(bH.1 hl.2.2).1
 have C2:=Lib.hid (fun n=>MF (h.drewN n) 1 rfl ho l.m.next (by omega))
 clear h hj hl hn
 go_enter Tryz.func161,Tryz.ntmps161
 go_wp2_with fail
 go_region_held3 (fun w'=>w'.cell? ⟨bx,0,none⟩=some (aD lb)∧w'.cell? ⟨lb,0,none⟩=some (aD bd)∧w'.cell? ⟨lb,3,none⟩=some (.int .i64 l.m.next)) (first | exact HW.out | exact hc2) (first | (go_at_call 62;refine (C2.out 1).mono ?_;rintro e w2 ⟨rfl,g2⟩;have hc2:=HP.out w2 _ g2;have G:=Lib.hid g2;clear g2))
 go_wp2_with fail
 go_ret
 exact⟨rfl,G.out⟩
theorem Vu (h:In F0 w0 w (eB lb bd l::bJ bd d::R)) (ho:d.ops≤99999990) {bx nb:Nat} (j k:Nat) (n:ByteArray) (hn:n.size≤maxLen) (hj:R[j]?=some (Cells bx #[aD lb] 28)) (hk:R[k]?=some (Cells nb #[.string n] 9)) :
  Calls Tryz.prog 162 #[.pointer (some ⟨bx,0,none⟩),.pointer (some ⟨nb,0,none⟩)] w fun e w'=>e=.returned (.int .i64 (aW d n).2)∧In F0 w0 w' (eB lb bd l::bJ bd (aW d n).1::R):=by
 have HP:Hid (∀ w' d',In F0 w0 w' (eB lb bd l::bJ bd d'::R)→w'.cell? ⟨bx,0,none⟩=some (aD lb)∧w'.cell? ⟨lb,0,none⟩=some (aD bd)∧w'.cell? ⟨nb,0,none⟩=some (.string n)):=Lib.hid fun w' d' h'=>⟨cell_of (h'.block (j+2) hj) rfl,h'.Ld,cell_of (h'.block (k+2) hk) rfl⟩
 have HW:=Lib.hid (HP.out w d h)
 have C2:=Lib.hid (fun m=>oU (h.drewN m) 1 rfl (by omega) n hn)
 clear h hj hk
 go_enter Tryz.func162,Tryz.ntmps162
 go_wp2_with fail
 go_region_held3 (fun w'=>w'.cell? ⟨bx,0,none⟩=some (aD lb)∧w'.cell? ⟨lb,0,none⟩=some (aD bd)∧w'.cell? ⟨nb,0,none⟩=some (.string n)) (first | exact HW.out | exact hc2) (first | (go_at_call 64;refine (C2.out 1).mono ?_;rintro e w2 ⟨rfl,g2⟩;have hc2:=HP.out w2 _ g2;have G:=Lib.hid g2;clear g2))
 go_wp2_with fail
 go_ret
 exact⟨rfl,G.out⟩
theorem Vv (m:dw) {A:Option Addr} {c:Nat} (h:In F0 w0 w (eB lb bd l::bJ bd d::lZ A c m.aa::R)) (ho:d.ops≤99999990) (hn:m.aa.length≤1000000000) {bx mb:Nat} (j k:Nat) (hj:R[j]?=some (Cells bx #[aD lb] 28)) (hk:R[k]?=some (Cells mb #[.int .i64 m.aj,.int .i64 m.next,.slice A m.aa.length c] 111)) :
  Calls Tryz.prog 163 #[.pointer (some ⟨bx,0,none⟩),.pointer (some ⟨mb,0,none⟩)] w fun e w'=>e=.returned (.int .i64 (dI m (d,l)).2.2)∧In F0 w0 w' (eB lb bd (dI m (d,l)).1.2::bJ bd (dI m (d,l)).1.1::R):=by
 have c0:w.cell? ⟨bx,0,none⟩=some (aD lb):=cell_of (h.block (j+3) hj) rfl
 have c1:w.cell? ⟨mb,0,none⟩=some (.int .i64 m.aj):=cell_of (h.block (k+3) hk) rfl
 have c2:w.cell? ⟨mb,1,none⟩=some (.int .i64 m.next):=cell_of (h.block (k+3) hk) rfl
 have c3:w.cell? ⟨mb,2,none⟩=some (.slice A m.aa.length c):=cell_of (h.block (k+3) hk) rfl
 have C:=Lib.hid (Vr m h ho hn)
 unfold iM at C
 clear h hj hk
 go_enter Tryz.func163,Tryz.ntmps163
 go_wp2_with fail
 refine C.out.mono ?_
 rintro e w1 ⟨rfl,g,-⟩
 have G:=Lib.hid g
 have HX:Hid (∃ x,(dI m (d,l)).2.2=x):=Lib.hid ⟨_,rfl⟩
 have HY:Hid (∃ x,(dI m (d,l)).2.1=x):=Lib.hid ⟨_,rfl⟩
 clear g C
 go_wp2_with fail
 go_ret
 exact⟨rfl,G.out⟩
def BN {σ:Type} (p:(Bool→Bool)×(σ→σ×Int)) (s:σ×Bool):(σ×Bool)×Int:=(((p.2 s.1).1,p.1 s.2),(p.2 s.1).2)
theorem Le {σ:Type} (L:List ((Bool→Bool)×(σ→σ×Int))) (s:σ×Bool):(bM (L.map BN) s).1.1=(bM (L.map (·.2)) s.1).1∧(bM (L.map BN) s).2=(bM (L.map (·.2)) s.1).2:=by
 suffices h:∀ (L:List ((Bool→Bool)×(σ→σ×Int))) (a:(σ×Bool)×Int) (b:σ×Int),a.1.1=b.1→a.2=b.2→((L.map BN).foldl bR a).1.1=((L.map (·.2)).foldl bR b).1∧((L.map BN).foldl bR a).2=((L.map (·.2)).foldl bR b).2 from h L _ _ rfl rfl
 intro L
 induction L with
 | nil=>intro a b h1 h2;exact⟨h1,h2⟩
 | cons p L ih=>
  intro a b h1 h2
  simp only [List.map_cons,List.foldl_cons]
  refine ih _ _ ?_ ?_
  ·unfold bR
   rw [h2]
   split
   ·show (p.2 a.1.1).1=_;rw [h1]
   ·exact h1
  ·unfold bR
   rw [h2]
   split
   ·show (p.2 a.1.1).2=_;rw [h1]
   ·exact h2
def sV (l:bK):List ((Bool→Bool)×(DL→DL×Int)):=
 [(id,gT (fun d=>aW d (bA l))),(id,gT (dK l.m.next)),(id,gT (fun d=>aW d (ai l.m.next))),(fun _=>true,fun t=>((dI (gL l) t).1,(dI (gL l) t).2.2))]
theorem Lf (d:ae) (l:bK) (h:¬ 64≤l.m.aa.length):bM ((sV l).map (·.2)) (d,l)=gD (d,l):=by
 unfold gD;rw [if_neg h];rfl
def RZ (lb bd bx mb nb:Nat) (l:bK) (A:Option Addr) (c:Nat) (R:List az) (s:DL×Bool):List az:=
 eB lb bd s.1.2::bJ bd s.1.1::((if s.2 then [] else [lZ A c (gL l).aa])++Cells nb #[.string (ai l.m.next)] 9::Cells mb #[.int .i64 (gL l).aj,.int .i64 (gL l).next,.slice A (gL l).aa.length c] 111::Cells bx #[aD lb] 28::R)
def Sa (l:bK) (k:Nat) (s:DL×Bool):Prop:=k≤3→(s.1.2=l∧s.2=false∧s.1.1.ops≤99999900+10 * k)
theorem Lg (l:bK) (k:Nat) (f:DL×Bool→(DL×Bool)×Int) (hf:((sV l).map BN)[k]?=some f) (s:DL×Bool) (h:Sa l k s):Sa l (k+1) (f s).1:=by
 intro hk
 obtain⟨h1,h2,h3⟩:=h (by omega)
 rcases k with _ | _ | _ | k
 ·cases hf
  have:=fZ s.1.1 (bA l)
  refine⟨h1,h2,?_⟩
  show (aW s.1.1 (bA l)).1.ops≤_;omega
 ·cases hf
  have:=rE l.m.next s.1.1
  refine⟨h1,h2,?_⟩
  show (dK l.m.next s.1.1).1.ops≤_;omega
 ·cases hf
  have:=fZ s.1.1 (ai l.m.next)
  refine⟨h1,h2,?_⟩
  show (aW s.1.1 (ai l.m.next)).1.ops≤_;omega
 ·omega
theorem Sb {fb bx mb nb:Nat} {A:Option Addr} {c:Nat} (hl:gH l) (ho:d.ops≤99999900)
  (fs:List (FuncId×Array Value)) (hfs:fs=[(160,#[.pointer (some ⟨bx,0,none⟩)]),(161,#[.pointer (some ⟨bx,0,none⟩)]),(162,#[.pointer (some ⟨bx,0,none⟩),.pointer (some ⟨nb,0,none⟩)]),(163,#[.pointer (some ⟨bx,0,none⟩),.pointer (some ⟨mb,0,none⟩)])])
  (h:In F0 w0 w (Cells fb (fs.map ED).toArray 48::RZ lb bd bx mb nb l A c R ((d,l),false))) :
  Calls Tryz.prog 60 #[.slice (some ⟨fb,0,none⟩) 4 4] w fun e w'=>e=.returned (.int .i64 (bM ((sV l).map (·.2)) (d,l)).2)∧In F0 w0 w' (eB lb bd (bM ((sV l).map (·.2)) (d,l)).1.2::bJ bd (bM ((sV l).map (·.2)) (d,l)).1.1::R):=by
 have lV:∀ args w',(callFunc 160 args).run Tryz.prog w'=.ok (.enter 160 args) w':=enters_of Tryz.func160 (by kernel_rfl) rfl
 have lW:∀ args w',(callFunc 161 args).run Tryz.prog w'=.ok (.enter 161 args) w':=enters_of Tryz.func161 (by kernel_rfl) rfl
 have uE:∀ args w',(callFunc 162 args).run Tryz.prog w'=.ok (.enter 162 args) w':=enters_of Tryz.func162 (by kernel_rfl) rfl
 have MG:∀ args w',(callFunc 163 args).run Tryz.prog w'=.ok (.enter 163 args) w':=enters_of Tryz.func163 (by kernel_rfl) rfl
 have hlen:fs.length=4:=by rw [hfs];rfl
 have hm:=(bH.1 hl.2.2).1
 have key:=AQ (F0:=F0) (w0:=w0) (w:=w) (Sa l) (RZ lb bd bx mb nb l A c R) fb 48 ((sV l).map BN) fs (by rw [hlen];rfl) (by omega) ((d,l),false) 4
  (fun _=>⟨rfl,rfl,by simp only;omega⟩) (fun k f hf s hI=>Lg l k f hf s hI)
  (fun f hf=>by
   rw [hfs] at hf
   simp only [List.mem_cons,List.not_mem_nil,or_false] at hf
   rcases hf with rfl | rfl | rfl | rfl
   ·exact lV
   ·exact lW
   ·exact uE
   ·exact MG)
  (fun k f g hf hg w' s hI h'=>by
   rw [hfs] at hf
   obtain⟨⟨d1,l1⟩,b1⟩:=s
   rcases k with _ | _ | _ | _ | k
   ·obtain⟨h1,h2,h3⟩:=hI (by omega)
    simp only at h1 h2 h3
    subst h1 h2
    cases hf;cases hg
    have:=Vs (h'.aI (R1:=[_,_,_]) [1,2,0] (by decide) rfl) hl (by simp only;omega) (bx:=bx) 4 rfl
    exact this.mono fun e w'' ⟨he,hw⟩=>⟨he,hw.aI (R1:=[_,_,_]) [2,0,1] (by decide) rfl⟩
   ·obtain⟨h1,h2,h3⟩:=hI (by omega)
    simp only at h1 h2 h3
    subst h1 h2
    cases hf;cases hg
    have:=Vt (h'.aI (R1:=[_,_,_]) [1,2,0] (by decide) rfl) hl (by simp only;omega) (bx:=bx) 4 rfl
    exact this.mono fun e w'' ⟨he,hw⟩=>⟨he,hw.aI (R1:=[_,_,_]) [2,0,1] (by decide) rfl⟩
   ·obtain⟨h1,h2,h3⟩:=hI (by omega)
    simp only at h1 h2 h3
    subst h1 h2
    cases hf;cases hg
    have:=Vu (h'.aI (R1:=[_,_,_]) [1,2,0] (by decide) rfl) (by simp only;omega) (bx:=bx) (nb:=nb) 4 2 (ai l1.m.next) (df _) rfl rfl
    exact this.mono fun e w'' ⟨he,hw⟩=>⟨he,hw.aI (R1:=[_,_,_]) [2,0,1] (by decide) rfl⟩
   ·obtain⟨h1,h2,h3⟩:=hI (by omega)
    simp only at h1 h2 h3
    subst h1 h2
    cases hf;cases hg
    have:=Vv (gL l1) (A:=A) (c:=c) (h'.aI (R1:=[_,_,_,_]) [1,2,3,0] (by decide) rfl) (by simp only;omega) (by simp [gL];omega) (bx:=bx) (mb:=mb) 3 2 rfl rfl
    exact this.mono fun e w'' ⟨he,hw⟩=>⟨he,hw.aI (R1:=[_,_,_]) [2,0,1] (by decide) rfl⟩
   ·simp at hf) h
 rw [hlen] at key
 refine key.mono fun e w' ⟨he,hw⟩=>?_
 obtain⟨e1,e2⟩:=Le (sV l) ((d,l),false)
 rw [e2] at he
 refine⟨he,?_⟩
 have hw2:=hw.drop
 unfold RZ at hw2
 rw [e1] at hw2
 cases hb:(bM ((sV l).map BN) ((d,l),false)).1.2 with
 | true=>rw [hb] at hw2;exact hw2.aI (R1:=[_,_,_,_,_]) [0,1] (by decide) rfl
 | false=>rw [hb] at hw2;exact hw2.aI (R1:=[_,_,_,_,_,_]) [0,1] (by decide) rfl
end
section
variable {F0:List Nat} {w0 w:World} {R:List az} {bd lb:Nat} {d:ae} {l:bK}
abbrev WG (a:Option Addr) (ca pb qb:Nat) (l:bK):List az:=[Cells pb #[.slice a l.m.aa.length ca,.slice (some ⟨qb,0,none⟩) 1 1] 43,Cells qb #[.int .i64 l.m.next] 3,lZ a ca l.m.aa]
abbrev WI (a:Option Addr) (ca bx lb bd:Nat) (l:bK) (d:ae) (R:List az):List az:=Cells bx #[aD lb] 28::Cells lb (xc bd l (.slice a l.m.aa.length ca)) 120::bJ bd d::R
def yY (bx lb:Nat) (l:bK) (a:Option Addr) (ca:Nat) (w':World):Prop:=
 w'.cell? ⟨bx,0,none⟩=some (aD lb)∧w'.cell? ⟨lb,2,none⟩=some (.int .i64 l.m.aj)∧w'.cell? ⟨lb,3,none⟩=some (.int .i64 l.m.next)∧w'.cell? ⟨lb,4,none⟩=some (.slice a l.m.aa.length ca)
theorem FR {a:Option Addr} {ca pb qb bx mb:Nat} (hl:l.m.aa.length≤64)
  (h:In F0 w0 w (WG a ca pb qb l++Cells mb #[.int .i64 0,.int .i64 0,.slice none 0 0] 111::WI a ca bx lb bd l d R)) :
  Calls Tryz.prog 159 #[.slice (some ⟨pb,0,none⟩) 2 2] w fun e w'=>∃ A c,e=.returned (.slice A (l.m.aa.length+1) c)∧yY bx lb l a ca w'∧(w'.frozen? ⟨mb,0,none⟩=false∧w'.frozen? ⟨mb,1,none⟩=false∧w'.frozen? ⟨mb,2,none⟩=false∧w'.cell? ⟨mb,0,none⟩=some (.int .i64 0)∧w'.cell? ⟨mb,1,none⟩=some (.int .i64 0)∧w'.cell? ⟨mb,2,none⟩=some (.slice none 0 0)) ∧
   FQ l lb bd bx d F0 w0 R (.pointer (some ⟨mb,0,none⟩)) (((w'.setCell ⟨mb,0,none⟩ (.int .i64 l.m.aj)).setCell ⟨mb,1,none⟩ (.int .i64 ((l.m.next:Int)+1))).setCell ⟨mb,2,none⟩ (.slice A (l.m.aa.length+1) c)):=by
 refine (yX h (by omega)).mono fun e w' ⟨A,c,he,h'⟩=>?_
 have e1:(l.m.aa++[l.m.next]).length=l.m.aa.length+1:=by simp
 refine⟨A,c,by rw [he,e1],⟨cell_of (h'.block 3 rfl) rfl,cell_of (h'.block 4 rfl) rfl,cell_of (h'.block 4 rfl) rfl,cell_of (h'.block 4 rfl) rfl⟩,⟨aL (h'.block 2 rfl),aL (h'.block 2 rfl),aL (h'.block 2 rfl),cell_of (h'.block 2 rfl) rfl,cell_of (h'.block 2 rfl) rfl,cell_of (h'.block 2 rfl) rfl⟩,mb,A,c,rfl,?_⟩
 have h2:=(h'.aI (R1:=[_,_,_,_,_,_]) [2,1,4,5,3,0] (by decide) rfl).Ui (.int .i64 l.m.aj) (.int .i64 ((l.m.next:Int)+1)) (.slice A (l.m.aa.length+1) c)
 have h3:=(h2.aI (R1:=[_,_,_]) [1,2,0] (by decide) rfl).nE
 rw [e1]
 exact h3.aI (R1:=[_,_,_,_,_]) [1,4,0,2,3] (by decide) rfl
theorem Vw {a:Option Addr} {ca pb qb bx:Nat} (hl:l.m.aa.length≤64)
  (h:In F0 w0 w (WG a ca pb qb l++WI a ca bx lb bd l d R)) :
  Calls Tryz.prog 159 #[.slice (some ⟨pb,0,none⟩) 2 2] w fun e w'=>∃ A c,e=.returned (.slice A (l.m.aa.length+1) c)∧yY bx lb l a ca w' ∧
   FQ l lb bd bx d F0 w0 R (.pointer (some ⟨w'.heap.size,0,none⟩)) (w'.alloc (.cells #[.int .i64 l.m.aj,.int .i64 ((l.m.next:Int)+1),.slice A (l.m.aa.length+1) c] 111)):=by
 refine (yX h (by omega)).mono fun e w' ⟨A,c,he,h'⟩=>?_
 have e1:(l.m.aa++[l.m.next]).length=l.m.aa.length+1:=by simp
 refine⟨A,c,by rw [he,e1],⟨cell_of (h'.block 2 rfl) rfl,cell_of (h'.block 3 rfl) rfl,cell_of (h'.block 3 rfl) rfl,cell_of (h'.block 3 rfl) rfl⟩,_,A,c,rfl,?_⟩
 have h2:=h'.cells #[.int .i64 l.m.aj,.int .i64 ((l.m.next:Int)+1),.slice A (l.m.aa.length+1) c] 111
 have h3:=(h2.aI (R1:=[_,_,_,_,_,_]) [2,4,0,1,5,3] (by decide) rfl).nE
 rw [e1]
 exact h3.aI (R1:=[_,_,_,_,_]) [1,2,0,3,4] (by decide) rfl
theorem mY {w:World} {a:Addr} {v:Value} {o:Obj} (h:w.cell? a=some v):(w.alloc o).cell? a=some v:=by
 rw [World.cell?_alloc_some _ _ _ (by rw [h];rfl)];exact h
theorem Yk (h:In F0 w0 w (eB lb bd l::bJ bd d::R)) (hl:gH l) (ho:d.ops≤99999900) :
  Calls Tryz.prog 75 #[aD lb] w fun e w'=>e=.returned (.int .i64 (gD (d,l)).2)∧In F0 w0 w' (eB lb bd (gD (d,l)).1.2::bJ bd (gD (d,l)).1.1::R):=by
 have hm:=(bH.1 hl.2.2).1
 obtain⟨a,ca,h1⟩:=h.lX
 have c2:w.cell? ⟨lb,2,none⟩=some (.int .i64 l.m.aj):=cell_of (h1.block 1 rfl) rfl
 have c3:w.cell? ⟨lb,3,none⟩=some (.int .i64 l.m.next):=cell_of (h1.block 1 rfl) rfl
 have c4:w.cell? ⟨lb,4,none⟩=some (.slice a l.m.aa.length ca):=cell_of (h1.block 1 rfl) rfl
 by_cases h64:64≤l.m.aa.length
 ·have HE:Hid (gD (d,l)=((d,l),4)):=Lib.hid (by unfold gD;rw [if_pos h64])
  have q:decide ((64:Int)≤(l.m.aa.length:Int))=true:=by simp;omega
  have c4':(w.alloc (.cells #[aD lb] 28)).cell? ⟨lb,4,none⟩=some (.slice a l.m.aa.length ca):=cell_of ((h1.cells #[aD lb] 28).block 2 rfl) rfl
  have H:=Lib.hid ((h.cells #[aD lb] 28).drop)
  clear h h1 hl hm
  go_enter Tryz.func75,Tryz.ntmps75
  go_wp2_with fail
  go_ret
  exact⟨by rw [HE.out];rfl,by rw [HE.out];exact H.out⟩
 ·have q:decide ((64:Int)≤(l.m.aa.length:Int))=false:=by simp;omega
  have HE:=Lib.hid (Lf d l h64)
  have g0:=h1.cells #[aD lb] 28
  have HG0:=Lib.hid g0
  have MH:=Lib.hid (And.intro hl ho)
  have hlen:l.m.aa.length≤64:=hm.2.2.2.1
  have hnx:l.m.next≤1000000:=hm.2.2.2.2.2
  have e4:(w.alloc (.cells #[aD lb] 28)).cell? ⟨lb,4,none⟩=some (.slice a l.m.aa.length ca):=cell_of (g0.block 2 rfl) rfl
  have e0:(w.alloc (.cells #[aD lb] 28)).cell? ⟨w.heap.size,0,none⟩=some (aD lb):=cell_of (g0.block 0 rfl) rfl
  clear h h1 hm hl ho
  go_enter Tryz.func75,Tryz.ntmps75
  go_upto_region 3 with fail
  go_cut [3] (fun mb wx=>FQ l lb bd w.heap.size d F0 w0 R mb wx)
  case first=>
   have zm:Hid (yY w.heap.size lb l a ca (w.alloc (.cells #[aD lb] 28))):=Lib.hid
    ⟨cell_of (g0.block 0 rfl) rfl,cell_of (g0.block 2 rfl) rfl,cell_of (g0.block 2 rfl) rfl,cell_of (g0.block 2 rfl) rfl⟩
   have abx:=Lib.hid hlen
   have hw:IntKind.i64.wrap ((l.m.next:Int)+1)=(l.m.next:Int)+1:=IntWalk.i64_in _ (by omega)
   have KA:Hid (Calls Tryz.prog 159 #[.slice (some ⟨w.heap.size+1+1+1,0,none⟩) 2 2] ((((w.alloc (.cells #[aD lb] 28)).alloc (.cells #[.int .i64 0,.int .i64 0,.slice none 0 0] 111)).alloc (.cells #[.int .i64 l.m.next] 3)).alloc (.cells #[.slice a l.m.aa.length ca,.slice (some ⟨w.heap.size+1+1,0,none⟩) 1 1] 43)).drew _):=Lib.hid
    (FR (mb:=w.heap.size+1) (qb:=w.heap.size+1+1) (pb:=w.heap.size+1+1+1) (bx:=w.heap.size) (lb:=lb) (bd:=bd) (d:=d) hlen (by
     have g:=(((g0.cells #[.int .i64 0,.int .i64 0,.slice none 0 0] 111).cells #[.int .i64 l.m.next] 3).cells #[.slice a l.m.aa.length ca,.slice (some ⟨w.heap.size+1+1,0,none⟩) 1 1] 43).drewN 1
     simp only [World.size_alloc] at g
     exact g.aI (R1:=[_,_,_,_,_]) [0,1,4,2,3] (by decide) rfl))
   have KB:Hid (Calls Tryz.prog 159 #[.slice (some ⟨w.heap.size+1+1+1,0,none⟩) 2 2] ((((w.alloc (.cells #[aD lb] 28)).alloc (.cells #[.int .i64 l.m.next] 3)).alloc (.cells #[.int .i64 0,.int .i64 0,.slice none 0 0] 111)).alloc (.cells #[.slice a l.m.aa.length ca,.slice (some ⟨w.heap.size+1,0,none⟩) 1 1] 43)).drew _):=Lib.hid
    (FR (mb:=w.heap.size+1+1) (qb:=w.heap.size+1) (pb:=w.heap.size+1+1+1) (bx:=w.heap.size) (lb:=lb) (bd:=bd) (d:=d) hlen (by
     have g:=(((g0.cells #[.int .i64 l.m.next] 3).cells #[.int .i64 0,.int .i64 0,.slice none 0 0] 111).cells #[.slice a l.m.aa.length ca,.slice (some ⟨w.heap.size+1,0,none⟩) 1 1] 43).drewN 1
     simp only [World.size_alloc] at g
     exact g.aI (R1:=[_,_,_,_,_]) [0,2,4,1,3] (by decide) rfl))
   have KC:Hid (Calls Tryz.prog 159 #[.slice (some ⟨w.heap.size+1+1,0,none⟩) 2 2] ((((w.alloc (.cells #[aD lb] 28)).alloc (.cells #[.int .i64 l.m.next] 3)).alloc (.cells #[.slice a l.m.aa.length ca,.slice (some ⟨w.heap.size+1,0,none⟩) 1 1] 43)).alloc (.cells #[.int .i64 0,.int .i64 0,.slice none 0 0] 111)).drew _):=Lib.hid
    (FR (mb:=w.heap.size+1+1+1) (qb:=w.heap.size+1) (pb:=w.heap.size+1+1) (bx:=w.heap.size) (lb:=lb) (bd:=bd) (d:=d) hlen (by
     have g:=(((g0.cells #[.int .i64 l.m.next] 3).cells #[.slice a l.m.aa.length ca,.slice (some ⟨w.heap.size+1,0,none⟩) 1 1] 43).cells #[.int .i64 0,.int .i64 0,.slice none 0 0] 111).drewN 1
     simp only [World.size_alloc] at g
     exact g.aI (R1:=[_,_,_,_,_]) [1,2,4,0,3] (by decide) rfl))
   have KD:Hid (Calls Tryz.prog 159 #[.slice (some ⟨w.heap.size+1+1,0,none⟩) 2 2] (((w.alloc (.cells #[aD lb] 28)).alloc (.cells #[.int .i64 l.m.next] 3)).alloc (.cells #[.slice a l.m.aa.length ca,.slice (some ⟨w.heap.size+1,0,none⟩) 1 1] 43)).drew _):=Lib.hid
    (Vw (qb:=w.heap.size+1) (pb:=w.heap.size+1+1) (bx:=w.heap.size) (lb:=lb) (bd:=bd) (d:=d) hlen (by
     have g:=((g0.cells #[.int .i64 l.m.next] 3).cells #[.slice a l.m.aa.length ca,.slice (some ⟨w.heap.size+1,0,none⟩) 1 1] 43).drewN 1
     simp only [World.size_alloc] at g
     exact g.aI (R1:=[_,_,_,_]) [0,1,3,2] (by decide) rfl))
   have hlb:lb < w.heap.size:=World.block_lt_of_cell? w _ c2
   have n1:¬ w.heap.size+1=lb:=by omega
   have n2:¬ w.heap.size+1+1=lb:=by omega
   have n3:¬ w.heap.size+1+1+1=lb:=by omega
   clear hlb
   clear g0 HG0 MH HE c2 c3 c4 e4 e0 h64 q hlen hnx
   unfold yY at zm
   obtain⟨s0,s2,s3,s4⟩:=zm.out
   go_region_held3 (fun w'=>w'.cell? ⟨w.heap.size,0,none⟩=some (aD lb)∧w'.cell? ⟨lb,2,none⟩=some (.int .i64 l.m.aj)∧w'.cell? ⟨lb,3,none⟩=some (.int .i64 l.m.next)∧w'.cell? ⟨lb,4,none⟩=some (.slice a l.m.aa.length ca)) (first | with_reducible exact zm.out | with_reducible exact hc1 | ((refine⟨?_,?_,?_,?_⟩ <;> repeat (first | with_reducible exact s0 | with_reducible exact s2 | with_reducible exact s3 | with_reducible exact s4 | with_reducible exact hc1.1 | with_reducible exact hc1.2.1 | with_reducible exact hc1.2.2.1 | with_reducible exact hc1.2.2.2 | rw [World.cell?_drew] | with_reducible refine mY ?_ | (rw [World.cell?_setCell_far _ _ _ _ (by simp;omega)])));done) | go_keep)
    (first
     | (go_at_call 159
        with_reducible refine KA.out.mono ?_
        rintro e w1 ⟨A,c,rfl,hc1,⟨f0,f1,f2,z0,z1,z2⟩,hmid⟩
        unfold yY at hc1
        have HM:=Lib.hid hmid
        clear hmid)
     | (go_at_call 159
        with_reducible refine KB.out.mono ?_
        rintro e w1 ⟨A,c,rfl,hc1,⟨f0,f1,f2,z0,z1,z2⟩,hmid⟩
        unfold yY at hc1
        have HM:=Lib.hid hmid
        clear hmid)
     | (go_at_call 159
        with_reducible refine KC.out.mono ?_
        rintro e w1 ⟨A,c,rfl,hc1,⟨f0,f1,f2,z0,z1,z2⟩,hmid⟩
        unfold yY at hc1
        have HM:=Lib.hid hmid
        clear hmid)
     | (go_at_call 159
        with_reducible refine KD.out.mono ?_
        rintro e w1 ⟨A,c,rfl,hc1,hmid⟩
        unfold yY at hc1
        have HM:=Lib.hid hmid
        clear hmid))
   all_goals (go_wp2_with fail;go_meet;exact HM.out)
  case rest=>
   obtain⟨mb,A,c,rfl,hx⟩:=hcut
   have d0:wc.cell? ⟨w.heap.size,0,none⟩=some (aD lb):=cell_of (hx.block 4 rfl) rfl
   have d3:wc.cell? ⟨lb,3,none⟩=some (.int .i64 l.m.next):=(hx.aI (R1:=[_,_,_,_,_]) [2,3,4,0,1] (by decide) rfl).lg3
   have C1:=Lib.hid (nU hx l.m.next (by omega))
   clear hx e4 e0 c2 c3 c4 g0 HG0 q h64
   go_wp2_with fail
   refine C1.out.mono ?_
   rintro e w1 ⟨rfl,g1⟩
   have g2:=g1.cells #[.string (ai l.m.next)] 9
   have g3:=g2.cells #[.func (.func 160) #[] #[.pointer (some ⟨w.heap.size,0,none⟩)],.func (.func 161) #[] #[.pointer (some ⟨w.heap.size,0,none⟩)],.func (.func 162) #[] #[.pointer (some ⟨w.heap.size,0,none⟩),.pointer (some ⟨w1.heap.size,0,none⟩)],.func (.func 163) #[] #[.pointer (some ⟨w.heap.size,0,none⟩),.pointer (some ⟨mb,0,none⟩)]] 48
   simp only [World.size_alloc] at g3
   have K:=Sb (R:=R) (nb:=w1.heap.size) (mb:=mb) (bx:=w.heap.size) (fb:=w1.heap.size+1) (A:=A) (c:=c) MH.out.1 MH.out.2 _ rfl (g3.aI (R1:=[_,_,_,_,_,_,_]) [0,4,5,3,1,2,6] (by decide) rfl)
   rw [HE.out] at K
   have KH:=Lib.hid K
   clear K g1 g2 g3 C1 MH HE
   go_wp2_with fail
   refine KH.out.mono ?_
   rintro e w2 ⟨rfl,g4⟩
   have G:=Lib.hid g4
   clear g4 KH
   go_wp2_with fail
   go_ret
   exact⟨rfl,G.out⟩
end
theorem mF {d:ae} (h:aP d) (n:ByteArray):bytesD d n≤1048576:=by
 unfold bytesD gY
 cases e:bQ d.now n with
 | none=>simp
 | some k=>
  have hk:=h.at e
  have:=(h.file (d.files.getD k default) (by rw [List.getD_eq_getElem?_getD,List.getElem?_eq_getElem hk];exact List.getElem_mem hk)).1
  simpa using this
section
variable {F0:List Nat} {w0 w:World} {R:List az} {bd lb:Nat} {d:ae} {l:bK}
theorem In.dk (h:In F0 w0 w (eB lb bd l::bJ bd d::R)):aP d:=by
 obtain⟨F,hF⟩:=h.get 1 rfl
 exact hF.1
def xe (n:Nat) (t:DL):DL×Int:=if lK t.2 (bytesD t.1 (bA t.2)) n then (t,0) else gD t
theorem Yl (h:In F0 w0 w (eB lb bd l::bJ bd d::R)) (hl:gH l) (ho:d.ops≤99999900) {bx nb n c:Nat} {a:Option Addr} (hn:n≤10000000) (j k:Nat) (hj:R[j]?=some (Cells bx #[aD lb] 28)) (hk:R[k]?=some (Cells nb #[.slice a n c] 23)) :
  Calls Tryz.prog 71 #[.pointer (some ⟨bx,0,none⟩),.pointer (some ⟨nb,0,none⟩)] w fun e w'=>e=.returned (.int .i64 (xe n (d,l)).2)∧In F0 w0 w' (eB lb bd (xe n (d,l)).1.2::bJ bd (xe n (d,l)).1.1::R):=by
 have HP:Hid (∀ w' d' l',In F0 w0 w' (eB lb bd l'::bJ bd d'::R)→w'.cell? ⟨bx,0,none⟩=some (aD lb)∧w'.cell? ⟨nb,0,none⟩=some (.slice a n c)):=Lib.hid fun w' d' l' h'=>⟨cell_of (h'.block (j+2) hj) rfl,cell_of (h'.block (k+2) hk) rfl⟩
 have HW:=Lib.hid (HP.out w d l h)
 have hb:=mF h.dk (bA l)
 have C1:=Lib.hid (fun n=>yt (h.drewN n) hl)
 have C2:=Lib.hid (fun w' (h':In F0 w0 w' (eB lb bd l::bJ bd d::R))=>FP h' (bA l) (df _))
 have C3:=Lib.hid (fun w' (h':In F0 w0 w' (eB lb bd l::bJ bd d::R))=>RX h' (bytesD d (bA l)) n (by omega) (by omega) hl.2.1)
 have C4:=Lib.hid (fun w' (h':In F0 w0 w' (eB lb bd l::bJ bd d::R))=>Yk h' hl ho)
 have HE:Hid (xe n (d,l)=if lK l (bytesD d (bA l)) n then ((d,l),0) else gD (d,l)):=Lib.hid rfl
 clear h hj hk hl ho hn
 generalize bytesD d (bA l)=x at *
 cases hq:lK l x n with
 | true=>
  rw [hq] at HE C3
  clear C4
  go_enter Tryz.func71,Tryz.ntmps71
  go_wp2_with fail
  go_region_held3 (fun w'=>w'.cell? ⟨bx,0,none⟩=some (aD lb)∧w'.cell? ⟨nb,0,none⟩=some (.slice a n c)) (first | exact HW.out | exact hc3 | exact hc2 | exact hc1) (first
   | (go_at_call 74;refine (C1.out 1).mono ?_;rintro e w1 ⟨rfl,g1⟩;have hc1:=HP.out w1 _ _ g1;have K2:=Lib.hid (C2.out w1 g1);clear g1)
   | (go_at_call 73;refine K2.out.mono ?_;rintro e w2 ⟨rfl,g2⟩;have hc2:=HP.out w2 _ _ g2;have K3:=Lib.hid (C3.out w2 g2);have G:=Lib.hid g2;clear g2)
   | (go_at_call 72;refine K3.out.mono ?_;rintro e w3 ⟨rfl,rfl⟩;have hc3:=HP.out _ _ _ G.out))
  go_wp2_with fail
  go_ret
  exact⟨by rw [HE.out];rfl,by rw [HE.out];exact G.out⟩
 | false=>
  rw [hq] at HE C3
  go_enter Tryz.func71,Tryz.ntmps71
  go_wp2_with fail
  go_region_held3 (fun w'=>w'.cell? ⟨bx,0,none⟩=some (aD lb)∧w'.cell? ⟨nb,0,none⟩=some (.slice a n c)) (first | exact HW.out | exact hc3 | exact hc2 | exact hc1) (first
   | (go_at_call 74;refine (C1.out 1).mono ?_;rintro e w1 ⟨rfl,g1⟩;have hc1:=HP.out w1 _ _ g1;have K2:=Lib.hid (C2.out w1 g1);clear g1)
   | (go_at_call 73;refine K2.out.mono ?_;rintro e w2 ⟨rfl,g2⟩;have hc2:=HP.out w2 _ _ g2;have K3:=Lib.hid (C3.out w2 g2);have G:=Lib.hid g2;clear g2)
   | (go_at_call 72;refine K3.out.mono ?_;rintro e w3 ⟨rfl,rfl⟩;have hc3:=HP.out _ _ _ G.out;have K4:=Lib.hid (C4.out _ G.out)))
  obtain⟨e0,e1⟩:=hc3
  clear C1 C2 C3 C4 K2 K3 hc1 hc2 G
  go_wp2_with fail
  refine K4.out.mono ?_
  rintro e w4 ⟨rfl,g4⟩
  have G4:=Lib.hid g4
  clear g4
  go_wp2_with fail
  go_ret
  exact⟨by rw [HE.out];rfl,by rw [HE.out];exact G4.out⟩
theorem Ym (h:In F0 w0 w (eB lb bd l::bJ bd d::R)) (hl:gH l) (ho:d.ops≤100000000) {bx nb c:Nat} {a:Option Addr} {bs:List UInt8} (hn:bs.length≤10000000) (j k m:Nat) (hj:R[j]?=some (Cells bx #[aD lb] 28)) (hk:R[k]?=some (Cells nb #[.slice a bs.length c] 23)) (hB:R[m]?=some (ay 5 1 (.slice a bs.length c) bs.length (eD bs))) :
  Calls Tryz.prog 76 #[.pointer (some ⟨bx,0,none⟩),.pointer (some ⟨nb,0,none⟩)] w fun e w'=>e=.returned (.int .i64 (aH d (bA l) bs).2)∧In F0 w0 w' (eB lb bd l::bJ bd (aH d (bA l) bs).1::R):=by
 have HP:Hid (∀ w' d' l',In F0 w0 w' (eB lb bd l'::bJ bd d'::R)→w'.cell? ⟨bx,0,none⟩=some (aD lb)∧w'.cell? ⟨nb,0,none⟩=some (.slice a bs.length c)∧w'.cell? ⟨lb,0,none⟩=some (aD bd)):=Lib.hid fun w' d' l' h'=>⟨cell_of (h'.block (j+2) hj) rfl,cell_of (h'.block (k+2) hk) rfl,h'.Ld⟩
 have HW:=Lib.hid (HP.out w d l h)
 have C1:=Lib.hid (fun n=>yt (h.drewN n) hl)
 have C2:=Lib.hid (fun w' (h':In F0 w0 w' (eB lb bd l::bJ bd d::R))=>uj h' 1 rfl ho (bA l) (df _) (m+2) (by omega) hB hn)
 clear h hj hk hl ho hn hB
 go_enter Tryz.func76,Tryz.ntmps76
 go_wp2_with fail
 go_region_held3 (fun w'=>w'.cell? ⟨bx,0,none⟩=some (aD lb)∧w'.cell? ⟨nb,0,none⟩=some (.slice a bs.length c)∧w'.cell? ⟨lb,0,none⟩=some (aD bd)) (first | exact HW.out | exact hc2 | exact hc1) (first
  | (go_at_call 74;refine (C1.out 1).mono ?_;rintro e w1 ⟨rfl,g1⟩;have hc1:=HP.out w1 _ _ g1;have K2:=Lib.hid (C2.out w1 g1);clear g1)
  | (go_at_call 77;refine K2.out.mono ?_;rintro e w2 ⟨rfl,g2⟩;have hc2:=HP.out w2 _ _ g2;have G:=Lib.hid g2;clear g2))
 go_wp2_with fail
 go_ret
 exact⟨rfl,G.out⟩
theorem Vx (h:In F0 w0 w (eB lb bd l::bJ bd d::R)) (hl:gH l) (ho:d.ops≤100000000) {bx:Nat} (j:Nat) (hj:R[j]?=some (Cells bx #[aD lb] 28)) :
  Calls Tryz.prog 86 #[.pointer (some ⟨bx,0,none⟩)] w fun e w'=>e=.returned (.int .i64 (aW d (bA l)).2)∧In F0 w0 w' (eB lb bd l::bJ bd (aW d (bA l)).1::R):=by
 have HP:Hid (∀ w' d',In F0 w0 w' (eB lb bd l::bJ bd d'::R)→w'.cell? ⟨bx,0,none⟩=some (aD lb)∧w'.cell? ⟨lb,0,none⟩=some (aD bd)):=Lib.hid fun w' d' h'=>⟨cell_of (h'.block (j+2) hj) rfl,h'.Ld⟩
 have HW:=Lib.hid (HP.out w d h)
 have C1:=Lib.hid (fun n=>yt (h.drewN n) hl)
 have C2:=Lib.hid (fun w' (h':In F0 w0 w' (eB lb bd l::bJ bd d::R))=>oU h' 1 rfl ho (bA l) (df _))
 clear h hj hl
 go_enter Tryz.func86,Tryz.ntmps86
 go_wp2_with fail
 go_region_held3 (fun w'=>w'.cell? ⟨bx,0,none⟩=some (aD lb)∧w'.cell? ⟨lb,0,none⟩=some (aD bd)) (first | exact HW.out | exact hc2 | exact hc1) (first | (go_at_call 74;refine (C1.out 1).mono ?_;rintro e w1 ⟨rfl,g1⟩;have hc1:=HP.out w1 _ g1;have K2:=Lib.hid (C2.out w1 g1);clear g1) | (go_at_call 64;refine K2.out.mono ?_;rintro e w2 ⟨rfl,g2⟩;have hc2:=HP.out w2 _ g2;have G:=Lib.hid g2;clear g2))
 go_wp2_with fail
 go_ret
 exact⟨rfl,G.out⟩
end
theorem yu {σ:Type} {P:σ→Prop} {r:σ×Int} {f:σ→σ×Int} (h:P r.1) (hf:∀ s,P s→P (f s).1):P (bR r f).1:=by
 unfold bR;split
 ·exact hf _ h
 ·exact h
theorem mZ {σ:Type} {μ:σ→Nat} {r:σ×Int} {f:σ→σ×Int} {a b:Nat} (h:μ r.1≤a) (hf:∀ s,μ (f s).1≤μ s+b):μ (bR r f).1≤a+b:=by
 unfold bR;split
 ·have:=hf r.1;omega
 ·omega
theorem rG {s:DL} (h:gH s.2):gH (aY s).1.2:=by
 unfold aY;split
 ·exact h
 ·exact h
theorem kZ (s:DL):(aY s).1.1.ops≤s.1.ops+1:=by
 unfold aY;split
 ·exact wZ s.1
 ·simp
theorem IK {m:dw} {d:ae} (h:(aK m d).2.1=true):fM m=true:=by
 unfold aK at h;split at h
 ·cases h
 ·rename_i hm;simpa using hm
theorem Oj {m:dw} {s:DL} (h:gH s.2):gH (dI m s).1.2:=by
 unfold dI
 simp only
 split
 ·rename_i hc
  exact⟨h.1,h.2.1,IK hc⟩
 ·exact h
theorem Sc {s:DL} (h:gH s.2):gH (gD s).1.2:=by
 unfold gD;split
 ·exact h
 ·refine yu (P:=fun t:DL=>gH t.2) (yu (P:=fun t:DL=>gH t.2) (yu (P:=fun t:DL=>gH t.2) h fun t ht=>ht) fun t ht=>ht) fun t ht=>?_
  exact Oj ht
theorem Ol (s:DL):(gD s).1.1.ops≤s.1.ops+9:=by
 unfold gD;split
 ·show s.1.ops≤_;omega
 ·have h1:=fZ s.1 (bA s.2)
  exact mZ (μ:=fun t:DL=>t.1.ops) (a:=s.1.ops+4) (b:=5) (mZ (μ:=fun t:DL=>t.1.ops) (a:=s.1.ops+3) (b:=1) (mZ (μ:=fun t:DL=>t.1.ops) (a:=s.1.ops+1) (b:=2) h1 fun t=>rE _ t.1) fun t=>fZ t.1 _) fun t=>oW _ t.1
theorem Sd {n:Nat} {s:DL} (h:gH s.2):gH (xe n s).1.2:=by
 unfold xe;split
 ·exact h
 ·exact Sc h
theorem DJ (n:Nat) (s:DL):(xe n s).1.1.ops≤s.1.ops+9:=by
 unfold xe;split
 ·show s.1.ops≤_;omega
 ·exact Ol s
def BO (b:List UInt8):List (DL→DL×Int):=[aY,xe b.length,fun t=>gT (fun d=>aH d (bA t.2) b) t]
theorem FT (kind:Int) (body:List UInt8) (s:DL) (h:gq kind s.2.m.aj body.length=0):bW kind body s=bM (BO (ak ⟨kind.toNat,s.2.m.aj,body⟩)) s:=by
 unfold bW;rw [if_neg (by rw [h];simp)];rfl
theorem IL (kind:Int) (body:List UInt8) (s:DL):(bW kind body s).1.1.ops≤s.1.ops+11:=by
 unfold bW;split
 ·show s.1.ops≤_;omega
 ·exact mZ (μ:=fun t:DL=>t.1.ops) (a:=s.1.ops+10) (b:=1) (mZ (μ:=fun t:DL=>t.1.ops) (a:=s.1.ops+1) (b:=9) (kZ s) fun t=>DJ _ t) fun t=>qH t.1 _ _
section
variable {F0:List Nat} {w0 w:World} {R:List az} {bd lb:Nat} {d:ae} {l:bK}
theorem Vy {fb bx nb c:Nat} {a:Option Addr} {b:List UInt8} (hl:gH l) (ho:d.ops≤99999000) (hb:b.length≤10000000)
  (fs:List (FuncId×Array Value×Array Value)) (hfs:fs=[(70,#[aD lb],#[]),(71,#[],#[.pointer (some ⟨bx,0,none⟩),.pointer (some ⟨nb,0,none⟩)]),(76,#[],#[.pointer (some ⟨bx,0,none⟩),.pointer (some ⟨nb,0,none⟩)])])
  (h:In F0 w0 w (Cells fb (fs.map AR).toArray 48::eB lb bd l::bJ bd d::ay 5 1 (.slice a b.length c) b.length (eD b)::Cells nb #[.slice a b.length c] 23::Cells bx #[aD lb] 28::R)) :
  Calls Tryz.prog 60 #[.slice (some ⟨fb,0,none⟩) 3 3] w fun e w'=>e=.returned (.int .i64 (bM (BO b) (d,l)).2)∧In F0 w0 w' (eB lb bd (bM (BO b) (d,l)).1.2::bJ bd (bM (BO b) (d,l)).1.1::R):=by
 have lV:∀ args w',(callFunc 70 args).run Tryz.prog w'=.ok (.enter 70 args) w':=enters_of Tryz.func70 (by kernel_rfl) rfl
 have lW:∀ args w',(callFunc 71 args).run Tryz.prog w'=.ok (.enter 71 args) w':=enters_of Tryz.func71 (by kernel_rfl) rfl
 have uE:∀ args w',(callFunc 76 args).run Tryz.prog w'=.ok (.enter 76 args) w':=enters_of Tryz.func76 (by kernel_rfl) rfl
 have hlen:fs.length=3:=by rw [hfs];rfl
 have key:=EJ (F0:=F0) (w0:=w0) (w:=w) (fun k (s:DL)=>gH s.2∧s.1.ops≤99999000+10 * k)
  (fun s=>eB lb bd s.2::bJ bd s.1::ay 5 1 (.slice a b.length c) b.length (eD b)::Cells nb #[.slice a b.length c] 23::Cells bx #[aD lb] 28::R) fb 48 (BO b) fs (by rw [hlen];rfl) (by omega) (d,l) 3
  ⟨hl,by simp only;omega⟩
  (fun k f hf s hI=>by
   rcases k with _ | _ | _ | k
   ·cases hf;exact⟨rG hI.1,by have:=kZ s;omega⟩
   ·cases hf;exact⟨Sd hI.1,by have:=DJ b.length s;omega⟩
   ·cases hf;exact⟨hI.1,by have:=qH s.1 (bA s.2) b;show (aH s.1 (bA s.2) b).1.ops≤_;omega⟩
   ·simp [BO] at hf)
  (fun f hf=>by
   rw [hfs] at hf
   simp only [List.mem_cons,List.not_mem_nil,or_false] at hf
   rcases hf with rfl | rfl | rfl
   ·exact lV
   ·exact lW
   ·exact uE)
  (fun k f g hf hg w' s hI h'=>by
   rw [hfs] at hf
   obtain⟨d1,l1⟩:=s
   obtain⟨i1,i2⟩:=hI
   simp only at i1 i2
   rcases k with _ | _ | _ | k
   ·cases hf;cases hg
    have:=BL (h'.aI (R1:=[_,_,_]) [1,2,0] (by decide) rfl) (by simp only;omega)
    exact this.mono fun e w'' ⟨he,hw⟩=>⟨he,hw.aI (R1:=[_,_,_]) [2,0,1] (by decide) rfl⟩
   ·cases hf;cases hg
    have:=Yl (n:=b.length) (h'.aI (R1:=[_,_,_]) [1,2,0] (by decide) rfl) i1 (by simp only;omega) (bx:=bx) (nb:=nb) (a:=a) (c:=c) hb 3 2 rfl rfl
    exact this.mono fun e w'' ⟨he,hw⟩=>⟨he,hw.aI (R1:=[_,_,_]) [2,0,1] (by decide) rfl⟩
   ·cases hf;cases hg
    have:=Ym (bs:=b) (h'.aI (R1:=[_,_,_]) [1,2,0] (by decide) rfl) i1 (by simp only;omega) (bx:=bx) (nb:=nb) (a:=a) (c:=c) hb 3 2 1 rfl rfl rfl
    exact this.mono fun e w'' ⟨he,hw⟩=>⟨he,hw.aI (R1:=[_,_,_]) [2,0,1] (by decide) rfl⟩
   ·simp at hf) h
 rw [hlen] at key
 exact key.mono fun e w' ⟨he,hw⟩=>⟨he,hw.drop.aI (R1:=[_,_,_,_,_]) [0,1] (by decide) rfl⟩
theorem Sg (h:In F0 w0 w (eB lb bd l::bJ bd d::R)) (hl:gH l) (ho:d.ops≤99999000) (kind:Int) {A:Option Addr} {c:Nat} {body:List UInt8} (hlen:body.length≤9000000) (hs:∀ w',In F0 w0 w' R→Src w' A body.length 1 (eD body)) :
  Calls Tryz.prog 18 #[aD lb,.int .i64 kind,.slice A body.length c] w fun e w'=>e=.returned (.int .i64 (bW kind body (d,l)).2)∧In F0 w0 w' (eB lb bd (bW kind body (d,l)).1.2::bJ bd (bW kind body (d,l)).1.1::R):=by
 obtain⟨a,ca,h0⟩:=h.lX
 have c2:(w.alloc (.cells #[aD lb] 28)).cell? ⟨lb,2,none⟩=some (.int .i64 l.m.aj):=mY (cell_of (h0.block 1 rfl) rfl)
 have h1:=h.cells #[aD lb] 28
 have C1:=Lib.hid (Et h1 kind l.m.aj (A:=A) (c:=c) (body:=body) (by omega) (fun w' h'=>hs w' h'.drop.drop.drop))
 clear h h0 h1 hs
 by_cases hz:gq kind l.m.aj body.length=0
 ·have HE:=Lib.hid (show bW kind body (d,l)=bM (BO (ak ⟨kind.toNat,l.m.aj,body⟩)) (d,l) from FT kind body (d,l) hz)
  have HPB:Hid (xG kind l.m.aj body=ak ⟨kind.toNat,l.m.aj,body⟩):=Lib.hid (by unfold xG;rw [if_pos hz];simp)
  have HZ:=Lib.hid hz
  have Gr:Hid ((ak ⟨kind.toNat,l.m.aj,body⟩).length≤10000000):=Lib.hid (by rw [dD];show 16+body.length≤_;omega)
  have MH:=Lib.hid (And.intro hl ho)
  clear hz hl ho hlen
  go_enter Tryz.func18,Tryz.ntmps18
  go_wp2_with fail
  refine C1.out.mono ?_
  rintro e w1 ⟨v,rfl,g1⟩
  rw [HZ.out]
  rw [HPB.out] at g1
  generalize ak ⟨kind.toNat,l.m.aj,body⟩=b at *
  obtain⟨F1,r1⟩:=g1.get 0 rfl
  obtain⟨a1,c1,rfl,-,-,-⟩:=r1.shape
  have d0:(w1.alloc (.cells #[.slice a1 b.length c1] 23)).cell? ⟨w.heap.size,0,none⟩=some (aD lb):=mY (cell_of (g1.block 1 rfl) rfl)
  have g2:=g1.cells #[.slice a1 b.length c1] 23
  have g3:=g2.cells #[.func (.func 70) #[aD lb] #[],.func (.func 71) #[] #[.pointer (some ⟨w.heap.size,0,none⟩),.pointer (some ⟨w1.heap.size,0,none⟩)],.func (.func 76) #[] #[.pointer (some ⟨w.heap.size,0,none⟩),.pointer (some ⟨w1.heap.size,0,none⟩)]] 48
  simp only [World.size_alloc] at g3
  have K:=Vy (R:=R) (bx:=w.heap.size) (nb:=w1.heap.size) (fb:=w1.heap.size+1) MH.out.1 MH.out.2 Gr.out _ rfl (g3.aI (R1:=[_,_,_,_,_,_]) [0,4,5,2,1,3] (by decide) rfl)
  rw [← HE.out] at K
  have KH:=Lib.hid K
  clear K g1 g2 g3 r1 C1 MH HE HPB HZ Gr
  go_wp2_with fail
  refine KH.out.mono ?_
  rintro e w2 ⟨rfl,g4⟩
  have G:=Lib.hid g4
  clear g4 KH
  go_wp2_with fail
  go_ret
  exact⟨rfl,G.out⟩
 ·have HE:Hid (bW kind body (d,l)=((d,l),gq kind l.m.aj body.length)):=Lib.hid (by unfold bW;rw [if_pos hz])
  have q:(gq kind l.m.aj body.length != 0)=true:=by rw [bne_iff_ne];exact hz
  clear hz hl ho hlen
  go_enter Tryz.func18,Tryz.ntmps18
  go_wp2_with fail
  refine C1.out.mono ?_
  rintro e w1 ⟨v,rfl,g1⟩
  obtain⟨F1,r1⟩:=g1.get 0 rfl
  obtain⟨a1,c1,rfl,-,-,-⟩:=r1.shape
  have G:=Lib.hid ((g1.alloc (.cells #[.slice a1 (xG kind l.m.aj body).length c1] 23)).drop.drop)
  clear g1 r1 C1
  go_wp2_with fail
  go_ret
  exact⟨by rw [HE.out];rfl,by rw [HE.out];exact G.out⟩
def Si:List (DL→DL×Int):=[aY,fun t=>gT (fun d=>aW d (bA t.2)) t]
theorem Om (s:DL):(fw s).1.1.ops≤s.1.ops+2:=mZ (μ:=fun t:DL=>t.1.ops) (a:=s.1.ops+1) (b:=1) (kZ s) fun t=>fZ t.1 _
theorem Sj {fb bx:Nat} (hl:gH l) (ho:d.ops≤99999000)
  (fs:List (FuncId×Array Value×Array Value)) (hfs:fs=[(70,#[aD lb],#[]),(86,#[],#[.pointer (some ⟨bx,0,none⟩)])])
  (h:In F0 w0 w (Cells fb (fs.map AR).toArray 48::eB lb bd l::bJ bd d::Cells bx #[aD lb] 28::R)) :
  Calls Tryz.prog 60 #[.slice (some ⟨fb,0,none⟩) 2 2] w fun e w'=>e=.returned (.int .i64 (fw (d,l)).2)∧In F0 w0 w' (eB lb bd (fw (d,l)).1.2::bJ bd (fw (d,l)).1.1::R):=by
 have lV:∀ args w',(callFunc 70 args).run Tryz.prog w'=.ok (.enter 70 args) w':=enters_of Tryz.func70 (by kernel_rfl) rfl
 have lW:∀ args w',(callFunc 86 args).run Tryz.prog w'=.ok (.enter 86 args) w':=enters_of Tryz.func86 (by kernel_rfl) rfl
 have hlen:fs.length=2:=by rw [hfs];rfl
 have key:=EJ (F0:=F0) (w0:=w0) (w:=w) (fun k (s:DL)=>gH s.2∧s.1.ops≤99999000+10 * k)
  (fun s=>eB lb bd s.2::bJ bd s.1::Cells bx #[aD lb] 28::R) fb 48 Si fs (by rw [hlen];rfl) (by omega) (d,l) 2
  ⟨hl,by simp only;omega⟩
  (fun k f hf s hI=>by
   rcases k with _ | _ | k
   ·cases hf;exact⟨rG hI.1,by have:=kZ s;omega⟩
   ·cases hf;exact⟨hI.1,by have:=fZ s.1 (bA s.2);show (aW s.1 (bA s.2)).1.ops≤_;omega⟩
   ·simp [Si] at hf)
  (fun f hf=>by
   rw [hfs] at hf
   simp only [List.mem_cons,List.not_mem_nil,or_false] at hf
   rcases hf with rfl | rfl
   ·exact lV
   ·exact lW)
  (fun k f g hf hg w' s hI h'=>by
   rw [hfs] at hf
   obtain⟨d1,l1⟩:=s
   obtain⟨i1,i2⟩:=hI
   simp only at i1 i2
   rcases k with _ | _ | k
   ·cases hf;cases hg
    have:=BL (h'.aI (R1:=[_,_,_]) [1,2,0] (by decide) rfl) (by simp only;omega)
    exact this.mono fun e w'' ⟨he,hw⟩=>⟨he,hw.aI (R1:=[_,_,_]) [2,0,1] (by decide) rfl⟩
   ·cases hf;cases hg
    have:=Vx (h'.aI (R1:=[_,_,_]) [1,2,0] (by decide) rfl) i1 (by simp only;omega) (bx:=bx) 1 rfl
    exact this.mono fun e w'' ⟨he,hw⟩=>⟨he,hw.aI (R1:=[_,_,_]) [2,0,1] (by decide) rfl⟩
   ·simp at hf) h
 rw [hlen] at key
 exact key.mono fun e w' ⟨he,hw⟩=>⟨he,hw.drop.aI (R1:=[_,_,_]) [0,1] (by decide) rfl⟩
theorem Vz (h:In F0 w0 w (eB lb bd l::bJ bd d::R)) (hl:gH l) (ho:d.ops≤99999000) :
  Calls Tryz.prog 25 #[aD lb] w fun e w'=>e=.returned (.int .i64 (fw (d,l)).2)∧In F0 w0 w' (eB lb bd (fw (d,l)).1.2::bJ bd (fw (d,l)).1.1::R):=by
 have g3:=(h.cells #[aD lb] 28).cells #[.func (.func 70) #[aD lb] #[],.func (.func 86) #[] #[.pointer (some ⟨w.heap.size,0,none⟩)]] 48
 simp only [World.size_alloc] at g3
 have KH:=Lib.hid (Sj (R:=R) (bx:=w.heap.size) (fb:=w.heap.size+1) hl ho _ rfl (g3.aI (R1:=[_,_,_,_]) [0,2,3,1] (by decide) rfl))
 clear h g3
 go_enter Tryz.func25,Tryz.ntmps25
 go_wp2_with fail
 refine KH.out.mono ?_
 rintro e w2 ⟨rfl,g4⟩
 have G:=Lib.hid g4
 clear g4 KH
 go_wp2_with fail
 go_ret
 exact⟨rfl,G.out⟩
end
end Go.Proofs.YtogclkhpbjfadaaGreat
