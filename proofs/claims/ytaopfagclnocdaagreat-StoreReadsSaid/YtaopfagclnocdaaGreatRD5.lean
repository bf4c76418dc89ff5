/- Rows.StoreReadsSaid -/
import Derived.Test.YtaopfagclnocdaaGreatRD4
import Derived.Test.YtaopfagclnocdaaGreatRD2
import Derived.Deep.MidRow
import Derived.Laws.Rows
import Derived.LoopTactic
import Derived.Deep.DeepCutAuto
namespace Go.Proofs.YtaopfagclnocdaaGreat
open Go.RowKit Go.ChangeShapes Go.WideShapes Go.Deep
open Go.RowKit
set_option linter.unusedVariables false
set_option maxHeartbeats 64000000
set_option maxRecDepth 100000
def encK:List IntKind→List Int→List Value
 | k::ks,n::ns=>.int k n::encK ks ns
 | _,_=>[]
theorem encK_append:∀ {ks:List IntKind} {ns:List Int} (ks':List IntKind) (ns':List Int),ns.length=ks.length→encK ks ns++encK ks' ns'=encK (ks++ks') (ns++ns')
 | [],[],_,_,_=>rfl
 | k::ks,n::ns,_,_,h=>by simp [encK,encK_append (ks:=ks) (ns:=ns) _ _ (by simpa using h)]
def wfK (ks:List IntKind) (ns:List Int):Prop:=∀ (j:Nat) (k:IntKind) (n:Int),ks[j]?=some k→ns[j]?=some n→(Lit.int k n).wf=true
theorem wfK_append {ks ks':List IntKind} {ns ns':List Int} (hl:ns.length=ks.length) (h:wfK ks ns) (h':wfK ks' ns'):wfK (ks++ks') (ns++ns'):=by
 intro j k n h1 h2
 by_cases hj:j < ks.length
 ·rw [List.getElem?_append_left hj] at h1
  rw [List.getElem?_append_left (by omega)] at h2
  exact h j k n h1 h2
 ·rw [List.getElem?_append_right (by omega)] at h1
  rw [List.getElem?_append_right (by omega)] at h2
  rw [hl] at h2
  exact h' _ k n h1 h2
section
variable {H:Type} (enc:TypeId×Value→H) (P:Program)
def FlatT (T:TypeId) (ks:List IntKind):Prop:=∀ (w:World) (base:Nat) (spare:Nat→Bool) (held:Bool) (n:Nat) (cs:List Value) (x:DataW H×List MemPlace),
 DataW.trod enc P w base spare held n T cs=some x→∃ ns:List Int,ns.length=ks.length∧cs=encK ks ns∧wfK ks ns
variable {enc P}
theorem flat_int {T:TypeId} {k:IntKind} (h:P.underlying T=some (.int k)):FlatT enc P T [k]:=by
 intro w base spare held n cs x hx
 obtain⟨m,e,_,hw⟩:=DataW.trod_int h hx
 refine⟨[m],rfl,by rw [e];rfl,fun j k' n' h1 h2=>?_⟩
 cases j with
 | zero=>simp at h1 h2;subst h1;subst h2;exact hw
 | succ j=>simp at h1
def offs:Nat→List (Field×List IntKind)→Prop
 | _,[]=>True
 | o,(f,ks)::r=>f.offset=o∧P.cellsOf f.type=ks.length∧offs (o+ks.length) r
theorem flat_fields:∀ (fk:List (Field×List IntKind)) (o:Nat),offs (P:=P) o fk→(∀ p∈fk,FlatT enc P p.1.type p.2)→∀ (w:World) (base:Nat) (spare:Nat→Bool) (held:Bool) (n:Nat) (cs:List Value) (xs:List (DataW H×List MemPlace)),
  (∀ (j:Nat) (f:Field),(fk.map (·.1))[j]?=some f→DataW.trod enc P w base spare held n f.type ((cs.drop f.offset).take (P.cellsOf f.type))=xs[j]?)→xs.length=fk.length→cs.length=o+((fk.map (·.2)).flatten).length →
  ∃ ns:List Int,ns.length=((fk.map (·.2)).flatten).length∧cs.drop o=encK ((fk.map (·.2)).flatten) ns∧wfK ((fk.map (·.2)).flatten) ns
 | [],o,_,_,_,_,_,_,_,cs,_,_,_,hl=>⟨[],rfl,by
   have:cs.drop o=[]:=List.drop_eq_nil_of_le (by simpa using Nat.le_of_eq hl)
   simp [this,encK],fun j k n h1=>by simp at h1⟩
 | (f,ks)::r,o,ho,hf,w,base,spare,held,n,cs,xs,hx,hxl,hl=>by
  obtain⟨o1,o2,o3⟩:=ho
  cases xs with
  | nil=>simp at hxl
  | cons x xs=>
   have h0:=hx 0 f (by simp)
   rw [o1,o2] at h0
   simp only [List.getElem?_cons_zero] at h0
   obtain⟨ns,n1,n2,n3⟩:=hf (f,ks) (by simp) w base spare held n _ x h0
   obtain⟨ms,m1,m2,m3⟩:=flat_fields r (o+ks.length) o3 (fun p hp=>hf p (List.mem_cons_of_mem _ hp)) w base spare held n cs xs (fun j g hg=>hx (j+1) g (by simpa using hg)) (by simpa using hxl)
    (by rw [hl];simp only [List.map_cons,List.flatten_cons,List.length_append];omega)
   refine⟨ns++ms,by simp only [List.map_cons,List.flatten_cons,List.length_append];rw [n1,m1],?_,by simpa using wfK_append n1 n3 m3⟩
   have:cs.drop o=(cs.drop o).take ks.length++(cs.drop o).drop ks.length:=(List.take_append_drop _ _).symm
   rw [this,List.drop_drop,m2,n2,encK_append _ _ n1]
   simp
theorem flat_struct {T:TypeId} {fs:Array Field} (h:P.underlying T=some (.struct fs)) (fk:List (Field×List IntKind)) (hfk:fk.map (·.1)=fs.toList) (ho:offs (P:=P) 0 fk) (hf:∀ p∈fk,FlatT enc P p.1.type p.2)
  (hc:P.cellsOf T=((fk.map (·.2)).flatten).length):FlatT enc P T ((fk.map (·.2)).flatten):=by
 intro w base spare held n cs x hx
 obtain⟨xs,n',_,_,hl,hlen,hfl⟩:=DataW.trod_struct h hx
 have:=flat_fields fk 0 ho hf w base spare held n' cs xs (fun j f hj=>hfl j f (by rw [hfk] at hj;simpa using hj)) (by rw [hlen,← Array.length_toList,← hfk,List.length_map]) (by rw [hl,hc];omega)
 simpa using this
structure ArgRows (ks:List IntKind) (w:World) (a:Option Addr) (len cap:Nat) (ps:List (List Int)):Prop where
 length:ps.length=len
 room:len≤cap
 most:cap≤maxLen
 shape:∀ x∈ps,x.length=ks.length∧wfK ks x
 at':len=0∨∃ b o,a=some ⟨b,o,none⟩∧b < w.heap.size∧∀ i x,ps[i]?=some x→∀ j v,(encK ks x)[j]?=some v→w.cell? ⟨b,o+(i * ks.length+j),none⟩=some v
end
theorem flatTupR {H:Type} {enc:TypeId×Value→H}:FlatT enc Tryz.prog 41 [.u32,.u32,.i64,.i64,.i64]:=by
 refine flat_struct Tryz.underlying41 [(_,[.u32]),(_,[.u32]),(_,[.i64]),(_,[.i64]),(_,[.i64])] rfl ⟨rfl,by kernel_rfl,rfl,by kernel_rfl,rfl,by kernel_rfl,rfl,by kernel_rfl,rfl,by kernel_rfl,trivial⟩ ?_ (by kernel_rfl)
 intro p hp
 simp only [List.mem_cons,List.not_mem_nil,or_false] at hp
 rcases hp with rfl | rfl | rfl | rfl | rfl
 all_goals exact flat_int (by kernel_rfl)
theorem flatFlR {H:Type} {enc:TypeId×Value→H}:FlatT enc Tryz.prog 43 [.u32,.u32,.i64,.i64,.i64,.i64,.i64,.i64]:=by
 refine flat_struct Tryz.underlying43 [(_,[.u32,.u32,.i64,.i64,.i64]),(_,[.i64]),(_,[.i64]),(_,[.i64])] rfl ⟨rfl,by kernel_rfl,rfl,by kernel_rfl,rfl,by kernel_rfl,rfl,by kernel_rfl,trivial⟩ ?_ (by kernel_rfl)
 intro p hp
 simp only [List.mem_cons,List.not_mem_nil,or_false] at hp
 rcases hp with rfl | rfl | rfl | rfl
 ·exact flatTupR
 all_goals exact flat_int (by kernel_rfl)
theorem flatBkR {H:Type} {enc:TypeId×Value→H}:FlatT enc Tryz.prog 108 [.i64,.u32,.i64]:=by
 refine flat_struct Tryz.underlying108 [(_,[.i64]),(_,[.u32]),(_,[.i64])] rfl ⟨rfl,by kernel_rfl,rfl,by kernel_rfl,rfl,by kernel_rfl,trivial⟩ ?_ (by kernel_rfl)
 intro p hp
 simp only [List.mem_cons,List.not_mem_nil,or_false] at hp
 rcases hp with rfl | rfl | rfl
 all_goals exact flat_int (by kernel_rfl)
theorem litR_i64 {n:Int} (h:(Lit.int .i64 n).wf=true):-9223372036854775808≤n∧n < 9223372036854775808:=by
 simp [Lit.wf,IntKind.min,IntKind.max,IntKind.signed,IntKind.bits] at h
 omega
theorem litR_u32 {n:Int} (h:(Lit.int .u32 n).wf=true):0≤n∧n < 4294967296:=by
 simp [Lit.wf,IntKind.min,IntKind.max,IntKind.signed,IntKind.bits] at h
 omega
abbrev encB (b:Bk):List Value:=[.int .i64 b.id,.int .u32 b.addr,.int .i64 b.weight]
def bkV (l:List Bk):List Value:=(l.map encB).flatten
theorem bkV_length (l:List Bk):(bkV l).length=l.length * 3:=by
 induction l with
 | nil=>rfl
 | cons b l ih=>
  have e:bkV (b::l)=encB b++bkV l:=by simp [bkV]
  have e1:(encB b).length=3:=rfl
  have e2:(b::l).length=l.length+1:=rfl
  rw [e,List.length_append,ih,e1,e2]
  omega
theorem bkV_at:∀ {l:List Bk} {i:Nat} {b:Bk},l[i]?=some b→(bkV l)[i * 3]?=some (.int .i64 b.id)∧(bkV l)[i * 3+1]?=some (.int .u32 b.addr)∧(bkV l)[i * 3+2]?=some (.int .i64 b.weight)
 | [],_,_,h=>by simp at h
 | x::l,0,b,h=>by
  simp at h;subst h
  simp [bkV,encB]
 | x::l,i+1,b,h=>by
  have e:bkV (x::l)=encB x++bkV l:=by simp [bkV]
  obtain⟨h0,h1,h2⟩:=bkV_at (l:=l) (i:=i) (by simpa using h)
  have hl:(encB x).length=3:=rfl
  rw [e]
  refine⟨?_,?_,?_⟩
  ·rw [List.getElem?_append_right (by rw [hl];omega),hl,show (i+1) * 3 - 3=i * 3 by omega];exact h0
  ·rw [List.getElem?_append_right (by rw [hl];omega),hl,show (i+1) * 3+1 - 3=i * 3+1 by omega];exact h1
  ·rw [List.getElem?_append_right (by rw [hl];omega),hl,show (i+1) * 3+2 - 3=i * 3+2 by omega];exact h2
theorem bkV_one (l:List Bk):∀ u∈bkV l,u.oneCell'=true:=by
 intro u hu
 simp only [bkV,List.mem_flatten,List.mem_map] at hu
 obtain⟨x,⟨b,_,rfl⟩,hx⟩:=hu
 simp at hx
 rcases hx with rfl | rfl | rfl <;> rfl
theorem bkV_snoc (l:List Bk) (b:Bk):bkV (l++[b])=bkV l++encB b:=by simp [bkV]
theorem bkV_get {l:List Bk} {t:Nat} {u:Value} (h:(bkV l)[t]?=some u):∃ b,l[t / 3]?=some b∧(encB b)[t % 3]?=some u:=by
 have hlt:t < l.length * 3:=by rw [← bkV_length];exact (List.getElem?_eq_some_iff.1 h).1
 obtain⟨b,hb⟩:∃ b,l[t / 3]?=some b:=⟨l[t / 3]'(by omega),List.getElem?_eq_getElem _⟩
 refine⟨b,hb,?_⟩
 obtain⟨h0,h1,h2⟩:=bkV_at hb
 have hd:=Nat.div_add_mod t 3
 have hm:=Nat.mod_lt t (show 0 < 3 by decide)
 rcases (by omega:t % 3=0∨t % 3=1∨t % 3=2) with e | e | e
 ·rw [show t / 3 * 3=t by omega,h] at h0;rw [e];exact h0.symm
 ·rw [show t / 3 * 3+1=t by omega,h] at h1;rw [e];exact h1.symm
 ·rw [show t / 3 * 3+2=t by omega,h] at h2;rw [e];exact h2.symm
structure ArgBks (w:World) (v:Value) (l:List Bk):Prop where
 ex:∃ a c,v=.slice a l.length c∧Src w a l.length 3 (bkV l)∧l.length≤c∧c≤maxLen∧(a=none→c=0)
 wf:∀ b∈l,WfBk b
abbrev encRL (r:Rec) (v:Value):List Value:=[.int .i64 r.kind,.int .u32 r.fl.t.src,.int .u32 r.fl.t.dst,.int .i64 r.fl.t.proto,.int .i64 r.fl.t.sport,.int .i64 r.fl.t.dport,.int .i64 r.fl.bk,.int .i64 r.fl.gen,.int .i64 r.fl.seen,.int .i64 r.gen,v,.int .i64 r.bk,.int .i64 r.till,.int .i64 r.count]
structure WfRI (r:Rec):Prop where
 rr:WfR r
 bb:∀ b∈r.bks,WfBk b
def RecIs (w:World) (cs:List Value) (r:Rec):Prop:=∃ v,cs=encRL r v∧ArgBks w v r.bks∧WfRI r
structure ArgSl {α:Type} (k:Nat) (Q:World→List Value→α→Prop) (w:World) (v:Value) (L:List α):Prop where
 ex:∃ a c,v=.slice a L.length c∧L.length≤c∧c≤maxLen∧(a=none→c=0)∧∀ i x,L[i]?=some x→∃ g o cs,a=some ⟨g,o,none⟩∧Q w cs x∧∀ j u,cs[j]?=some u→w.cell? ⟨g,o+i * k+j,none⟩=some u
abbrev ArgRecs:=ArgSl 14 RecIs
structure CallR where
 act:Int
 n:Int
 r:Rec
 rows:List Rec
 picks:List UInt8
def CallRIs (w:World) (cs:List Value) (c:CallR):Prop:=∃ v vr vp,cs=.int .i64 c.act::.int .i64 c.n::(encRL c.r v++[vr,vp])∧ArgBks w v c.r.bks∧WfRI c.r∧ArgRecs w vr c.rows∧AB w vp c.picks
abbrev ArgCalls15:=ArgSl 18 CallRIs
section
variable {H:Type} {enc:TypeId×Value→H} {P:Program} {w:World} {base:Nat} {spare:Nat→Bool} {held:Bool}
theorem openSl {α:Type} {Q:World→List Value→α→Prop} {T E:TypeId} {k:Nat} (ht:P.underlying T=some (.slice E)) (hC:P.cellsOf E=k) (hpos:0 < k)
  (one:∀ n cs y,DataW.trod enc P w base spare held n E cs=some y→cs.length=k→∃ x,Q w cs x) {fuel:Nat} {cs:List Value} {y:DataW H×List MemPlace}
  (hf:DataW.trod enc P w base spare held fuel T cs=some y):∃ v L,cs=[v]∧ArgSl k Q w v L:=by
 rcases open_slice ht hf with ⟨hcs,_⟩|⟨x,l,c,m,n,D,Pl,hcs,_,hl,hm,hmm,_,hi⟩
 ·exact⟨_,[],hcs,none,0,rfl,Nat.le_refl _,Nat.zero_le _,fun _=>rfl,by simp⟩
 ·have hle:l≤m:=by rw [hmm];split <;> omega
  have one':∀ i,i < l→∃ z:α,∃ cs',Q w cs' z∧cs'.length=k∧∀ j v,cs'[j]?=some v→w.cell? (x.add (i * k+j))=some v:=by
   intro i hil
   obtain⟨cs',hc,ht'⟩:=hi i (by omega)
   obtain⟨_,hcl,hat⟩:=World.cells?_some hc
   have hcl':cs'.length=k:=by rw [← hC];exact hcl
   obtain⟨z,hz⟩:=one _ _ _ ht' hcl'
   refine⟨z,cs',hz,hcl',fun j v hv=>?_⟩
   have hj:j < P.cellsOf E:=by
    have:=(List.getElem?_eq_some_iff.1 hv).1
    omega
   rw [← Go.Deep.add_add,← hC,hat j hj];exact hv
  obtain⟨L,hl1,hp⟩:=exists_list l one'
  refine⟨_,L,hcs,some x,c,by rw [hl1],by omega,hm,(fun e=>by cases e),fun i z hz=>?_⟩
  obtain⟨hi2,rfl⟩:=List.getElem?_eq_some_iff.1 hz
  have hlen0:0 < L.length:=by omega
  obtain⟨cs0,q1,q2,q3⟩:=hp 0 hlen0
  have c0:=q3 0 _ (List.getElem?_eq_getElem (by omega))
  have e:=addr_none (a:=x) (by simpa using c0)
  obtain⟨cs',q4,_,q5⟩:=hp i hi2
  refine⟨x.block,x.off,cs',by rw [← e],q4,fun j u hu=>?_⟩
  have:=q5 j u hu
  rw [e,add_plain] at this
  rw [Nat.add_assoc];exact this
theorem openBks {fuel:Nat} {cs:List Value} {y:DataW H×List MemPlace} (h:DataW.trod enc Tryz.prog w base spare held fuel 32 cs=some y):∃ v l,cs=[v]∧ArgBks w v l:=by
 obtain⟨v,L,e,hv⟩:=openSl (k:=3) (Q:=fun _ cs (b:Bk)=>cs=encB b∧WfBk b) Tryz.underlying32 (by kernel_rfl) (by decide) (fun n cs y hy hl=>by
  obtain⟨ns,n1,n2,n3⟩:=flatBkR w base spare held n cs y hy
  match ns,n1,n2,n3 with
  | [a,b,c],_,e,hw=>
   obtain⟨a0,a1⟩:=litR_i64 (hw 0 _ _ rfl rfl)
   obtain⟨b0,b1⟩:=litR_u32 (hw 1 _ _ rfl rfl)
   obtain⟨c0,c1⟩:=litR_i64 (hw 2 _ _ rfl rfl)
   exact⟨⟨a,b,c⟩,by rw [e];rfl,⟨a0,a1,b0,b1,c0,c1⟩⟩) h
 obtain⟨a,c,e1,h1,h2,hn,h3⟩:=hv.ex
 refine⟨v,L,e,⟨⟨a,c,e1,⟨bkV_length L,fun h0=>?_⟩,h1,h2,hn⟩,fun b hb=>?_⟩⟩
 ·obtain⟨g,o,cs0,e0,_,_⟩:=h3 0 _ (List.getElem?_eq_getElem h0)
  refine⟨⟨g,o,none⟩,e0,fun j u hu=>?_⟩
  obtain⟨b,hb,hbu⟩:=bkV_get hu
  obtain⟨g',o',cs',e',⟨ec,_⟩,hc⟩:=h3 _ _ hb
  rw [e0] at e';cases e'
  subst ec
  have:=hc _ _ hbu
  rw [add_at,show o+j=o+j / 3 * 3+j % 3 by omega]
  exact this
 ·obtain⟨i,hi,rfl⟩:=List.mem_iff_getElem.1 hb
  obtain⟨_,_,_,_,⟨_,hw⟩,_⟩:=h3 i _ (List.getElem?_eq_getElem hi)
  exact hw
theorem fld {fs:Array Field} {n':Nat} {cs:List Value} {xs:List (DataW H×List MemPlace)} (hfl:∀ (i:Nat) (f:Field),fs[i]?=some f→DataW.trod enc P w base spare held n' f.type ((cs.drop f.offset).take (P.cellsOf f.type))=xs[i]?) {j o k T:Nat} {f:Field} (hj:fs[j]?=some f) (ht:f.type=T) (ho:f.offset=o) (hk:P.cellsOf T=k) (hx:j < xs.length) :
  ∃ z,DataW.trod enc P w base spare held n' T ((cs.drop o).take k)=some z:=by
 subst ht ho hk
 exact⟨xs[j],by rw [hfl j f hj];exact List.getElem?_eq_getElem hx⟩
theorem list14 {cs:List Value} (h:cs.length=14):∃ c0 c1 c2 c3 c4 c5 c6 c7 c8 c9 c10 c11 c12 c13,cs=[c0,c1,c2,c3,c4,c5,c6,c7,c8,c9,c10,c11,c12,c13]:=by
 match cs,h with
 | [c0,c1,c2,c3,c4,c5,c6,c7,c8,c9,c10,c11,c12,c13],_=>exact⟨c0,c1,c2,c3,c4,c5,c6,c7,c8,c9,c10,c11,c12,c13,rfl⟩
theorem recOf {n:Nat} {cs:List Value} {y:DataW H×List MemPlace} (h:DataW.trod enc Tryz.prog w base spare held n 45 cs=some y) (hl:cs.length=14):∃ r,RecIs w cs r:=by
 obtain⟨xs,n',_,_,hlc,hlen,hfl⟩:=DataW.trod_struct Tryz.underlying45 h
 have hxl:xs.length=7:=by rw [hlen];rfl
 obtain⟨z0,t0⟩:=fld hfl (j:=0) rfl rfl rfl (show Tryz.prog.cellsOf 3=1 by kernel_rfl) (by omega)
 obtain⟨z1,t1⟩:=fld hfl (j:=1) rfl rfl rfl (show Tryz.prog.cellsOf 43=8 by kernel_rfl) (by omega)
 obtain⟨z2,t2⟩:=fld hfl (j:=2) rfl rfl rfl (show Tryz.prog.cellsOf 3=1 by kernel_rfl) (by omega)
 obtain⟨z3,t3⟩:=fld hfl (j:=3) rfl rfl rfl (show Tryz.prog.cellsOf 32=1 by kernel_rfl) (by omega)
 obtain⟨z4,t4⟩:=fld hfl (j:=4) rfl rfl rfl (show Tryz.prog.cellsOf 3=1 by kernel_rfl) (by omega)
 obtain⟨z5,t5⟩:=fld hfl (j:=5) rfl rfl rfl (show Tryz.prog.cellsOf 2=1 by kernel_rfl) (by omega)
 obtain⟨z6,t6⟩:=fld hfl (j:=6) rfl rfl rfl (show Tryz.prog.cellsOf 3=1 by kernel_rfl) (by omega)
 obtain⟨k,e0,-,-⟩:=DataW.trod_int (k:=.i64) (by kernel_rfl) t0
 obtain⟨ns,n1,n2,n3⟩:=flatFlR w base spare held n' _ _ t1
 obtain⟨g,e2,-,-⟩:=DataW.trod_int (k:=.i64) (by kernel_rfl) t2
 obtain⟨v,l,e3,hb⟩:=openBks t3
 obtain⟨b,e4,-,-⟩:=DataW.trod_int (k:=.i64) (by kernel_rfl) t4
 obtain⟨u,e5,-,-⟩:=DataW.trod_int (k:=.i64) (by kernel_rfl) t5
 obtain⟨c,e6,-,-⟩:=DataW.trod_int (k:=.i64) (by kernel_rfl) t6
 obtain⟨c0,c1,c2,c3,c4,c5,c6,c7,c8,c9,c10,c11,c12,c13,rfl⟩:=list14 hl
 match ns,n1,n2,n3 with
 | [s,d,p,sp,dp,bk,gn,sn],_,e1,hw=>
  change [c0]=_ at e0
  change [c1,c2,c3,c4,c5,c6,c7,c8]=_ at e1
  change [c9]=_ at e2
  change [c10]=_ at e3
  change [c11]=_ at e4
  change [c12]=_ at e5
  change [c13]=_ at e6
  simp only [encK,List.cons.injEq,and_true] at e0 e1 e2 e3 e4 e5 e6
  obtain⟨s0,s1⟩:=litR_u32 (hw 0 _ _ rfl rfl)
  obtain⟨d0,d1⟩:=litR_u32 (hw 1 _ _ rfl rfl)
  obtain⟨p0,p1⟩:=litR_i64 (hw 2 _ _ rfl rfl)
  obtain⟨sp0,sp1⟩:=litR_i64 (hw 3 _ _ rfl rfl)
  obtain⟨dp0,dp1⟩:=litR_i64 (hw 4 _ _ rfl rfl)
  obtain⟨q1,q2,q3,q4,q5,q6,q7,q8⟩:=e1
  subst e0 e2 e3 e4 e5 e6 q1 q2 q3 q4 q5 q6 q7 q8
  exact⟨⟨k,⟨⟨s,d,p,sp,dp⟩,bk,gn,sn⟩,g,l,b,u,c⟩,_,rfl,hb,⟨⟨⟨s0,s1,d0,d1,p0,by show p≤_;omega,sp0,by show sp≤_;omega,dp0,by show dp≤_;omega⟩,fun b hb'=>⟨(hb.wf b hb').a0,(hb.wf b hb').a1⟩⟩,hb.wf⟩⟩
theorem openRecs {fuel:Nat} {cs:List Value} {y:DataW H×List MemPlace} (h:DataW.trod enc Tryz.prog w base spare held fuel 22 cs=some y):∃ v L,cs=[v]∧ArgRecs w v L:=
 openSl (k:=14) (Q:=RecIs) Tryz.underlying22 (by kernel_rfl) (by decide) (fun n cs y hy hl=>recOf hy hl) h
theorem openRecsA {a:Option Addr} {len cap:Nat} {d:DataW H} {p:List MemPlace} (h:DataW.Trod enc Tryz.prog w base spare held 22 (.slice a len cap) d p):∃ L,ArgRecs w (.slice a len cap) L:=by
 obtain⟨fuel,hf⟩:=h
 obtain⟨v,L,e,hL⟩:=openRecs hf
 simp [Value.cells] at e
 subst e
 exact⟨L,hL⟩
end
section
variable {w0 w:World} {R:List Asrt}
end
theorem heap3_mid (w:World) (A B C:Obj):(((w.alloc A).alloc B).alloc C).heap[w.heap.size+1]?=some B:=by
 rw [heap_alloc_old _ _ (by rw [World.size_alloc,World.size_alloc];omega),heap_alloc2_new]
def setL:Nat→List Value→Array Value→Array Value
 | _,[],C=>C
 | o,x::xs,C=>setL (o+1) xs (C.setIfInBounds o x)
theorem setL_toList:∀ (xs:List Value) (o:Nat) (C:Array Value),o+xs.length≤C.size→(setL o xs C).toList=C.toList.take o++(xs++C.toList.drop (o+xs.length))
 | [],o,C,h=>by simp [setL]
 | x::xs,o,C,h=>by
  simp only [List.length_cons] at h
  have h1:=setL_toList xs (o+1) (C.setIfInBounds o x) (by simp;omega)
  show (setL (o+1) xs (C.setIfInBounds o x)).toList=_
  rw [h1,Array.toList_setIfInBounds]
  have e1:(C.toList.set o x).take (o+1)=C.toList.take o++[x]:=by
   rw [List.take_add_one,List.take_set_of_le (Nat.le_refl _),List.getElem?_set_self (by simp;omega)];rfl
  have e2:(C.toList.set o x).drop (o+1+xs.length)=C.toList.drop (o+1+xs.length):=List.drop_set_of_lt (by omega)
  rw [e1,e2,List.append_assoc]
  simp only [List.length_cons,List.cons_append,List.nil_append]
  rw [show o+1+xs.length=o+(xs.length+1) by omega]
theorem setL_full {xs:List Value} {C:Array Value} (h:xs.length=C.size):setL 0 xs C=xs.toArray:=by
 apply Array.toList_inj.1
 rw [setL_toList xs 0 C (by omega)]
 simp [h]
theorem setL_at {xs ys:List Value} {o:Nat} {C:Array Value} (h:o+xs.length≤C.size) (hy:C.toList.take o++(xs++C.toList.drop (o+xs.length))=ys):setL o xs C=ys.toArray:=by
 apply Array.toList_inj.1
 rw [setL_toList xs o C h,hy]
theorem In.setCs {F0:List Nat} {w0:World} {b:Nat} {T:TypeId}:∀ (xs:List Value) (o:Nat) {w:World} {R:List Asrt} {C:Array Value} (i:Nat),In F0 w0 w R→R[i]?=some (Cells b C T)→In F0 w0 (w.setCells b o xs) (R.set i (Cells b (setL o xs C) T))
 | [],o,w,R,C,i,h,hA=>by
  have:R.set i (Cells b C T)=R:=set_same hA
  show In F0 w0 w (R.set i (Cells b C T))
  rw [this];exact h
 | x::xs,o,w,R,C,i,h,hA=>by
  have h1:=h.put i hA o x
  have hi:i < R.length:=(List.getElem?_eq_some_iff.1 hA).1
  have h2:=In.setCs (b:=b) (T:=T) xs (o+1) (C:=C.setIfInBounds o x) i h1 (by simp [hi])
  rw [List.set_set] at h2
  exact h2
theorem In.setFull {F0:List Nat} {w0 w:World} {R:List Asrt} {b:Nat} {T:TypeId} {C:Array Value} (h:In F0 w0 w R) (i:Nat) (hA:R[i]?=some (Cells b C T)) {xs:List Value} (hl:xs.length=C.size):In F0 w0 (w.setCells b 0 xs) (R.set i (Cells b xs.toArray T)):=by
 have h1:=In.setCs xs 0 i h hA
 rwa [setL_full hl] at h1
theorem there_of {w:World} {b:Nat} {C:Array Value} {T:TypeId} (h:w.heap[b]?=some (.cells C T (0,0))):w.there b 0 C.size:=fun j hj=>by
 rw [Nat.zero_add]
 refine⟨?_,free_of h⟩
 rw [cell_of h (Array.getElem?_eq_getElem hj)];rfl
def zCall:Array Value:=#[.int .i64 0,.int .i64 0,.int .i64 0,.int .u32 0,.int .u32 0,.int .i64 0,.int .i64 0,.int .i64 0,.int .i64 0,.int .i64 0,.int .i64 0,.int .i64 0,.slice none 0 0,.int .i64 0,.int .i64 0,.int .i64 0,.slice none 0 0,.slice none 0 0]
def zRec:Array Value:=#[.int .i64 0,.int .u32 0,.int .u32 0,.int .i64 0,.int .i64 0,.int .i64 0,.int .i64 0,.int .i64 0,.int .i64 0,.int .i64 0,.slice none 0 0,.int .i64 0,.int .i64 0,.int .i64 0]
def callV (c:CallR) (ab:Option Addr) (cb:Nat) (ar:Option Addr) (cr:Nat) (ap:Option Addr) (cp:Nat):List Value:=.int .i64 c.act::.int .i64 c.n::(encRL c.r (.slice ab c.r.bks.length cb)++[.slice ar c.rows.length cr,.slice ap c.picks.length cp])
def recV (r:Rec) (ab:Option Addr) (cb:Nat):List Value:=encRL r (.slice ab r.bks.length cb)
section
variable {c:CallR} {ab ar ap:Option Addr} {cb cr cp:Nat} {r:Rec}
theorem recV_10:(recV r ab cb).toArray[10]?=some (.slice ab r.bks.length cb):=rfl
theorem recV_one:(recV r ab cb).toArray.all (·.oneCell')=true:=by simp [recV,encRL,Value.oneCell']
end
theorem rec_of {W:World} {cs:List Value} {r:Rec} (h:RecIs W cs r):∃ ab cb,cs=recV r ab cb∧Src W ab r.bks.length 3 (bkV r.bks)∧(ab=none→cb=0)∧r.bks.length≤maxLen∧WfRI r:=by
 obtain⟨v,rfl,h1,h2⟩:=h
 obtain⟨ab,cb,rfl,s1,s2,s3,s4⟩:=h1.ex
 exact⟨ab,cb,rfl,s1,s4,Nat.le_trans s2 s3,h2⟩
theorem range_old {w0 w:World} {R:List Asrt} (h:Own w0 w R) {b o:Nat} {cs:List Value} (hc:∀ j u,cs[j]?=some u→w0.cell? ⟨b,o+j,none⟩=some u):w.rangeAt b o cs:=fun j u hu=>cell_old h (hc j u hu)
section
variable {F0:List Nat} {w0 w:World} {R:List Asrt}
theorem rec_box (h:In F0 w0 w R) (r:Rec) (ab:Option Addr) (cb:Nat):(w.alloc (.cells zRec 45)).there w.heap.size 0 14∧In F0 w0 ((w.alloc (.cells zRec 45)).setCells w.heap.size 0 (recV r ab cb).toArray.toList) (Cells w.heap.size (recV r ab cb).toArray 45::R):=by
 have g1:=h.cells zRec 45
 exact⟨there_of (g1.block 0 rfl),g1.setFull 0 rfl (xs:=recV r ab cb) (b:=w.heap.size) (C:=zRec) (T:=45) rfl⟩
end
structure LightC (c:CallR):Prop where
 n:c.rows.length≤30
 b:c.r.bks.length≤40
 rows:∀ r∈c.rows,r.bks.length≤40
structure LightP (cs:List CallR):Prop where
 len:cs.length≤60
 each:∀ c∈cs,LightC c
section
variable {w0 w:World} {R:List Asrt}
def LiRel (cs:List CallR) (w0:World) (R:List Asrt) (i:Value) (wr:World):Prop:=
 ∃ k:Nat,k≤cs.length∧k≤60∧i=.int .i64 k∧(∀ c∈cs.take k,LightC c)∧In [] w0 wr R
def LiRel2 (rs:List Rec) (w0:World) (R:List Asrt) (i:Value) (wr:World):Prop:=
 ∃ k:Nat,k≤rs.length∧i=.int .i64 k∧(∀ r∈rs.take k,r.bks.length≤40)∧In [] w0 wr R
def LightPost (cs:List CallR) (w0:World) (R:List Asrt) (e:Ending) (w':World):Prop:=∃ b:Bool,e=.returned (.bool b)∧(b=true→LightP cs)∧In [] w0 w' R
end
end Go.Proofs.YtaopfagclnocdaaGreat
