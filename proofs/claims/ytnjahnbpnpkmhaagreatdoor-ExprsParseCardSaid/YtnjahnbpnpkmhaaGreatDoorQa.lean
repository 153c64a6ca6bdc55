/- Part 1. -/
import Derived.Calls
import Derived.Below
import Derived.Deep.Quiet
import Derived.KernelRfl

namespace Go.Lw
section
variable {B w:World}{a:Act}{o oi oj:Oper}{v:Value}{i m j d:Nat}{b:Bool}{od:Option Nat}{listed listed':Array Bool}
abbrev aq:=Array Obj
abbrev Env:=List (Nat×Value)
def Env.at:Env->Nat->Option Value
 | [],_=>none
 |(j,v)::r,i=>match Nat.beq j i with|true=>some v|false=>Env.at r i
def Env.put (ρ:Env) (dst:Option Nat) (v:Value):Env:=match dst with|some d=>(d,v)::ρ |none=>ρ
def cellAt (h:aq) (a:Addr):Option Value :=
 match h[a.block]? with
 |some (.cells c _ _)=>if a.spot.isSome then none else c[a.off]?
 |_=>none
def frozenAt (h:aq) (a:Addr):Bool :=
 match h[a.block]? with
 |some (.cells _ _ (lo,hi))=>lo<=a.off && a.off<hi
 |_=>false
structure At (B:World) (h:aq) (w:World):Prop where
 heap:w.heap=h
 os:w.os=B.os
 tape:w.tape=B.tape
 output:w.output=B.output
theorem At.cell {B:World}{h:aq}{w:World}(k:At B h w) (a:Addr):w.cell? a=cellAt h a:=by
 rw[<-k.heap];rfl
theorem At.frozen {B:World}{h:aq}{w:World}(k:At B h w) (a:Addr):w.frozen? a=frozenAt h a:=by
 rw[<-k.heap];rfl
theorem At.refl (w:World):At w w.heap w:=⟨rfl,rfl,rfl,rfl⟩
theorem At.A3 {h:aq}(k:At B h w) (h':aq):At B h' { w with heap:=h' }:=⟨rfl,k.os,k.tape,k.output⟩
theorem At.drew {h:aq}(k:At B h w):At B h { w with drawn:=w.drawn+1 }:=⟨k.heap,k.os,k.tape,k.output⟩
theorem At.base {h:aq}(k:At B h w){h':aq}{w':World}(k':At w h' w'):At B h' w':=⟨k'.heap,k'.os.trans k.os,k'.tape.trans k.tape,k'.output.trans k.output⟩
structure Fits (n:Nat) (ρ:Env) (a:Act):Prop where
 size:a.tmps.size=n
 ok:∀i v,ρ.at i=some v->a.tmps[i]? =some v
 nd:a.defers=[]
def ou (n:Nat):Option Nat->Bool
 |some d=>Nat.blt d n
 |none=>true
theorem Env.fS (j:Nat) (v:Value) (ρ:Env) (i:Nat):Env.at ((j,v)::ρ) i=if j=i then some v else ρ.at i:=by
 simp only[Env.at]
 by_cases h:j=i
 · subst h;simp
 · have:Nat.beq j i=false:=by
    cases I:Nat.beq j i
    · rfl
    · exact absurd (Nat.eq_of_beq_eq_true I) h
   simp[this,h]
theorem Fits.put {n:Nat}{ρ:Env}{a:Act}(f:Fits n ρ a){dst:Option Nat}(hd:ou n dst=true) (v:Value):Fits n (ρ.put dst v) (a.put dst v):=by
 cases dst with
 |none=>exact f
 |some d =>
  have hd':d<n:=Nat.blt_eq.mp hd;refine⟨by simp[Act.put,f.size],λi u h=>?_,f.nd⟩;simp only[Env.put,Env.fS] at h;simp only[Act.put];split at h
  · rename_i e;subst e;cases h;rw[Array.getElem?_setIfInBounds_self_of_lt (by rw[f.size];exact hd')]
  · rename_i e;rw[Array.getElem?_setIfInBounds_ne e];exact f.ok i u h
def bp (ρ:Env):Operand->Option Value
 |.tmp t=>ρ.at t
 |.const v=>some v
 |.global g=>some (.pointer (some ⟨g,0,none⟩))
 |.func f=>some (.func (.func f) #[] #[])
theorem Fits.eval {n:Nat}{ρ:Env}{a:Act}(f:Fits n ρ a){x:Operand}{v:Value}(h:bp ρ x=some v):a.eval x=v:=by
 cases x with
 |tmp t=>simp only[bp] at h;have:=f.ok t v h;simp[Act.eval,this]
 |const u=>simp only[bp] at h;cases h;rfl
 |global g=>simp only[bp] at h;cases h;rfl
 |func g=>simp only[bp] at h;cases h;rfl
def Sub:Env->Env->Prop
 | [],_=>True
 |(i,v)::r,ρ=>ρ.at i=some v/\Sub r ρ
theorem Sub.at {ρ' ρ:Env}(h:Sub ρ' ρ) (i:Nat) (v:Value) (hi:ρ'.at i=some v):ρ.at i=some v:=by
 induction ρ' with
 |nil=>simp[Env.at] at hi
 |cons p r I =>
  obtain⟨j,u⟩:=p;rw[Env.fS] at hi;split at hi
  · rename_i e;subst e;cases hi;exact h.1
  · exact I h.2 hi
theorem Fits.sub {n:Nat}{ρ ρ':Env}(f:Fits n ρ a) (h:Sub ρ' ρ):Fits n ρ' a:=⟨f.size,λi v hi=>f.ok i v (h.at i v hi),f.nd⟩
def az (P:Program) (o:Oper) (ρ:Env) (h:aq) (v:Value):Prop :=
 ∀n B a w,Fits n ρ a->At B h w->(execOp a.eval o).run P w= .ok (.value v) w
def aV (P:Program) (o:Oper) (ρ:Env) (h:aq) (Φ:Value->aq->Prop) (X:List PanicEntry->aq->Prop):Prop :=
 ∀n B a w,Fits n ρ a->At B h w->∀next Q,(∀v h' w',At B h' w'->Φ v h'->next (a.put o.dst v) w') ->
  (∀ch h' w',At B h' w'->X ch h'->Q (.panic ch) a w')->o.wp P a w next Q
theorem az.HX {P:Program}{ρ:Env}{h:aq}{X:List PanicEntry->aq->Prop}(k:az P o ρ h v):aV P o ρ h (λu h'=>u=v/\h'=h) X:=by
 intro n B a w U I next Q J _
 unfold Oper.wp;rw[k n B a w U I];exact J v h w I ⟨rfl,rfl⟩
theorem aV.mono {P:Program}{ρ:Env}{h:aq}{Φ Φ':Value->aq->Prop}{X U:List PanicEntry->aq->Prop}(k:aV P o ρ h Φ X) (h1:∀v h',Φ v h'->Φ' v h') (h2:∀c h',X c h'->U c h'):aV P o ρ h Φ' U :=
 λn B a w hf ha next Q Z Y=>k n B a w hf ha next Q (λv h' w' I J=>Z v h' w' I (h1 _ _ J)) (λc h' w' I J=>Y c h' w' I (h2 _ _ J))
def nth:List Oper->Nat->Option Oper
 | [],_=>none
 |a::_,0=>some a
 |_::l,n+1=>nth l n
theorem EA:∀(l:List Oper) (i:Nat),nth l i=l[i]?
 | [],_=>rfl
 |_::_,0=>rfl
 |_::l,n+1=>by simpa [nth] using EA l n
theorem jb {ops:Array Oper}(h:nth ops.toList i=some o):ops[i]? =some o:=by
 rw[EA] at h;simpa using h
def aW (ops:Array Oper) (ρ:Env) (o:Oper):Option Bool :=
 match o.guard with
 |none=>some true
 |some (j,want) =>
  match (nth ops.toList j).bind (·.dst) with
  |none=>none
  |some d=>match ρ.at d with
   |some (.bool b)=>some (b ==want)
   |some (.tuple _)=>some false
   |_=>none
theorem fy {n:Nat}{ops:Array Oper}{ρ:Env}(f:Fits n ρ a) (h:aW ops ρ o=some b):Region.wanted o (yielded ops a.tmps)=b:=by
 unfold aW at h;unfold Region.wanted;cases Y:o.guard with
 |none=>simp[Y] at h;simp[h]
 |some p =>
  obtain⟨j,want⟩:=p;simp only[Y] at h;unfold yielded;rw[EA,Array.getElem?_toList] at h;cases U:ops[j]? with
  |none=>simp[U] at h
  |some oj =>
   simp only[U,Option.bind_some] at h ⊢;cases I:oj.dst with
   |none=>simp[I] at h
   |some d =>
    simp only[I,Option.bind_some] at h ⊢;cases J:ρ.at d with
    |none=>simp[J] at h
    |some v =>
     rw[f.ok d v J];simp only[J] at h;cases v<;>simp at h ⊢ <;>first|exact h|(rw[h])
def RW (P:Program) (n:Nat) (ops:Array Oper) (i:Nat) (ρ:Env) (h:aq) (N:Env->aq->Prop) (X:List PanicEntry->aq->Prop):Prop :=
 ∀B a w,Fits n ρ a->At B h w->∀Q:Exit->Act->World->Prop,(∀ρ' h' a' w',Fits n ρ' a'->At B h' w'->N ρ' h'->Q .normal a' w') ->
  (∀ch h' a' w',a'.defers=[]->At B h' w'->X ch h'->Q (.panic ch) a' w')->wpOps P ops Q ((List.range ops.size).drop i) a w
section
variable {P:Program}{n:Nat}{ops:Array Oper}{i:Nat}{ρ:Env}{h:aq}{N:Env->aq->Prop}{X:List PanicEntry->aq->Prop}
theorem kr (hi:i<m):(List.range m).drop i=i::(List.range m).drop (i+1):=by
 rw[List.drop_eq_getElem_cons (by simpa using hi)];simp
theorem mI (I:ops[i]? =some o):i<ops.size:=by
 rcases Nat.lt_or_ge i ops.size with h|h
 · exact h
 · simp[Array.getElem?_eq_none h] at I
theorem RW.op {Φ:Value->aq->Prop}(Y:nth ops.toList i=some o) (hw:aW ops ρ o=some true) (U:o.dst=od) (hd:ou n od=true) (k:aV P o ρ h Φ X)
 (next:∀v h',Φ v h'->RW P n ops (i+1) (ρ.put od v) h' N X):RW P n ops i ρ h N X:=by
 subst U;have Z:=jb Y;intro B a w J ha Q hN hX;rw[kr (mI Z)];simp only[wpOps,Z];rw[fy J hw,if_pos rfl];refine .inl (k n B a w J ha _ _ (λv h' w' I hv=>?_) (λch h' w' I hx=>hX ch h' a w' J.nd I hx));exact next v h' hv B _ w' (J.put hd v) I Q hN hX
theorem Lm (U:nth ops.toList i=some o) (hw:aW ops ρ o=some true) (I:o.dst=od) (Z:ou n od=true) (k:az P o ρ h v)
 (next:RW P n ops (i+1) (ρ.put od v) h N X):RW P n ops i ρ h N X :=
 RW.op U hw I Z k.HX (λ_ _ ⟨J,Y⟩=>by subst J;subst Y;exact next)
theorem Gf (J:nth ops.toList i=some o) (hw:aW ops ρ o=some false) (I:o.dst=od) (Z:ou n od=true)
 (next:RW P n ops (i+1) (ρ.put od undef) h N X):RW P n ops i ρ h N X:=by
 subst I;have U:=jb J;intro B a w Y ha Q hN hX;rw[kr (mI U)];simp only[wpOps,U];rw[fy Y hw,if_neg (by simp)];exact next B _ w (Y.put Z _) ha Q hN hX
theorem jf (hi:Nat.ble ops.size i=true) (next:N ρ h):RW P n ops i ρ h N X:=by
 intro B a w I J Q U _;have:ops.size<=i:=Nat.le_of_ble_eq_true hi;rw[List.drop_eq_nil_of_le (by simpa using this)];exact U ρ h a w I J next
theorem pR {d:Nat}{b:Bool}(hb:ρ.at d=some (.bool b)) (Y:b=true->RW P n ops i ((d,.bool true)::ρ) h N X) (Z:b=false->RW P n ops i ((d,.bool false)::ρ) h N X):RW P n ops i ρ h N X:=by
 have key:∀a,Fits n ρ a->Fits n ((d,.bool b)::ρ) a:=λa I=>⟨I.size,λj v J=>by
  rw[Env.fS] at J;split at J
  · rename_i e;subst e;cases J;exact I.ok d _ hb
  · exact I.ok j v J,I.nd⟩
 cases b with
 |true=>exact λB a w I U=>Y rfl B a w (key a I) U
 |false=>exact λB a w I U=>Z rfl B a w (key a I) U
end
structure Ext (M:Nat->Prop) (h h':aq):Prop where
 size:h.size<=h'.size
 block:∀b,b<h.size->¬M b->h'[b]? =h[b]?
theorem Ext.refl (M:Nat->Prop) (h:aq):Ext M h h:=⟨Nat.le_refl _,λ_ _ _=>rfl⟩
theorem Ext.trans {M:Nat->Prop}{a b c:aq}(h:Ext M a b) (k:Ext M b c):Ext M a c :=
 ⟨Nat.le_trans h.size k.size,λi hi hm=>(k.block i (Nat.lt_of_lt_of_le hi h.size) hm).trans (h.block i hi hm)⟩
theorem Ext.mono {M I:Nat->Prop}{a b:aq}(h:Ext M a b) (hm:∀i,i<a.size->M i->I i):Ext I a b :=
 ⟨h.size,λi hi J=>h.block i hi (λk=>J (hm i hi k))⟩
theorem eu {h:aq}{a:Addr}(k:cellAt h a=some v):a.block<h.size:=by
 rcases Nat.lt_or_ge a.block h.size with hl|hl
 · exact hl
 · simp[cellAt,Array.getElem?_eq_none hl] at k
theorem Ext.cell {M:Nat->Prop}{h h':aq}(e:Ext M h h'){a:Addr}(hm:¬M a.block) (k:cellAt h a=some v):cellAt h' a=some v:=by
 have:=e.block a.block (eu k) hm;unfold cellAt at *;rw[this];exact k
def DU (P:Program) (ops:Array Oper) (M:Nat->Prop) (keeps:Nat->Bool) (Q:Exit->Act->World->Prop):Nat->Array Bool->Act->World->Prop
 | 0,listed,a,w=>Region.ready .any ops listed=[]/\Q .normal a w
 |fuel+1,listed,a,w =>
  (Region.ready .any ops listed=[]->Q .normal a w) /\
  ∀i∈Region.ready .any ops listed,wpOp P ops Q i (λa' w'=>(keeps i=true->Ext M w.heap w'.heap)/\DU P ops M keeps Q fuel (listed.setIfInBounds i true) a' w') a w
section
variable {P:Program}{ops:Array Oper}{M:Nat->Prop}{keeps:Nat->Bool}{Q:Exit->Act->World->Prop}
theorem qw:∀(fuel:Nat) (listed:Array Bool) (a:Act) (w:World),DU P ops M keeps Q fuel listed a w->wpAny P .any ops Q fuel listed a w
 | 0,_,_,_,h=>h
 |fuel+1,_,_,_,h=>⟨h.1,λi hi=>wpOp_mono (λI w' h'=>qw fuel _ I w' h'.2) (h.2 i hi)⟩
def gv (P:Program) (ops:Array Oper) (M:Nat->Prop) (o:Oper) (v:Value) (a:Act) (w:World):Prop :=
 (Region.wanted o (yielded ops a.tmps)=true/\∀w',Ext M w.heap w'.heap->(execOp a.eval o).run P w'= .ok (.value v) w') \/
 (Region.wanted o (yielded ops a.tmps)=false/\v=undef)
theorem gv.wpOp {i:Nat}{o:Oper}{v:Value}{a:Act}{w:World}(hi:ops[i]? =some o) (I:gv P ops M o v a w)
 {K:Act->World->Prop}(h:K (a.put o.dst v) w):wpOp P ops Q i K a w:=by
 unfold Go.wpOp;simp only[hi]
 rcases I with ⟨hw,J⟩|⟨hw,rfl⟩
 · simp only[hw,if_true,Oper.wp,J w (Ext.refl _ _),Oper.upon];exact .inl h
 · simp only[hw,Bool.false_eq_true,if_false];exact h
theorem gv.of_same {U:Act}{w':World}(Y:gv P ops M o v a w) (he:execOp U.eval o=execOp a.eval o)
 (hw:Region.wanted o (yielded ops U.tmps)=Region.wanted o (yielded ops a.tmps)) (Z:Ext M w.heap w'.heap):gv P ops M o v U w':=by
 unfold gv at *;rw[he,hw]
 rcases Y with ⟨h1,h2⟩|h
 · exact .inl ⟨h1,λI J=>h2 I (Z.trans J)⟩
 · exact .inr h
theorem Gt (hj:ops[j]? =some oj) (hap:oi.apart ops oj=true)
 (hsi:∀cs b,oi.op≠ .select cs b) (hsj:∀cs b,oj.op≠ .select cs b)
 (hQ:∀c a w,Q (.panic c) (a.put oi.dst v) w->Q (.panic c) a w){K:Act->World->Prop}
 (hy:gv P ops M oi v a w) (h:Go.wpOp P ops Q j (λa' w'=>Ext M w.heap w'.heap/\K a' w') (a.put oi.dst v) w) :
 Go.wpOp P ops Q j (λa' w'=>Ext M w.heap w'.heap/\gv P ops M oi v a' w'/\K (a'.put oi.dst v) w') a w:=by
 obtain⟨h1,h2,h3⟩:=Oper.apart_spec hap
 have keep:∀(a:Act) (w w':World),gv P ops M oi v a w->Ext M w.heap w'.heap->∀u,gv P ops M oi v (a.put oj.dst u) w':=λa w w' hy he u =>
  hy.of_same (execOp_put oi hsi a oj.dst u h3) (wanted_put oi a oj.dst u h3) he
 have keepD:∀d (w':World),Ext M w.heap w'.heap->gv P ops M oi v { a with defers:=d::a.defers } w':=λd w' he=>hy.of_same rfl rfl he
 unfold Go.wpOp at *;simp only[hj] at *;rw[wanted_put oj a oi.dst v h1] at h;split
 · rename_i hw;simp only[hw,if_true] at h
   rcases h with h|⟨hasks,hlets⟩
   case inr=>exact .inr ⟨by unfold Oper.asks at *;rw[execOp_put oj hsj a oi.dst v h1] at hasks;exact hasks,hlets⟩
   refine .inl ?_;unfold Oper.wp at *;rw[execOp_put oj hsj a oi.dst v h1] at h;generalize (execOp a.eval oj).run P w=r at *;cases r with
   |ok n w' =>
    cases n<;>simp only[Oper.upon] at h ⊢
    case value u=>exact⟨h.1,keep _ _ _ hy h.1 u,by rw[<-Act.put_comm a v u h2];exact h.2⟩
    case skip=>exact⟨h.1,keep _ _ _ hy h.1 undef,by rw[<-Act.put_comm a v undef h2];exact h.2⟩
    case defer d =>
     refine⟨h.1,?_,?_⟩
     · exact(keepD d w' h.1).of_same (execOp_put oi hsi _ oj.dst undef h3) (wanted_put oi _ oj.dst undef h3) (Ext.refl _ _)
     · have hk:=h.2;rw[Act.put_defers] at hk;rw[<-Act.put_comm _ v undef h2];exact hk
    case enter f args =>
     refine h.mono λe w'' hr=>?_
     cases e with
     |returned u=>exact⟨hr.1,keep _ _ _ hy hr.1 u,by rw[<-Act.put_comm a v u h2];exact hr.2⟩
     |panicked c=>exact hQ c a w'' hr
     |outgrown=>exact hr
    case row row args =>
     exact h.mono λu w'' hr=>⟨hr.1,keep _ _ _ hy hr.1 u,by rw[<-Act.put_comm a v u h2];exact hr.2⟩
   |halt x w' =>
    cases x<;>simp only[Oper.upon] at h ⊢
    case panic u=>exact hQ _ a w' h
 · rename_i hw;simp only[hw] at h;exact⟨h.1,keep _ _ _ hy h.1 _,by rw[<-Act.put_comm a v undef h2];exact h.2⟩
def gY (ops:Array Oper) (listed:Array Bool) (i:Nat):Nat->Nat->Bool
 | 0,_=>false
 |m+1,j=>match ops[j]? with
  |some oj=>oj.after.any λe=>Region.binds .any e && (e.on ==i ||(!(listed.getD e.on true) && gY ops listed i m e.on))
  |none=>false
theorem uA (h:gY ops listed i (m+1) j=true):∃oj,ops[j]? =some oj/\∃e∈oj.after,Region.binds .any e=true/\(e.on=i\/(listed.getD e.on true=false/\gY ops listed i m e.on=true)):=by
 unfold gY at h;split at h
 · rename_i oj I;obtain⟨e,he,J⟩:=Array.any_eq_true'.1 h;simp only[Bool.and_eq_true,Bool.or_eq_true,beq_iff_eq,Bool.not_eq_true'] at J;exact⟨oj,I,e,he,J⟩
 · cases h
theorem zF (I:ops[j]? =some oj){e:Edge}(he:e∈oj.after) (J:Region.binds .any e=true) (h:e.on=i\/(listed.getD e.on true=false/\gY ops listed i m e.on=true)):gY ops listed i (m+1) j=true:=by
 unfold gY;rw[I];refine Array.any_eq_true'.2 ⟨e,he,?_⟩;simp only[Bool.and_eq_true,Bool.or_eq_true,beq_iff_eq,Bool.not_eq_true'];exact⟨J,h⟩
theorem wh (hi:i∈Region.ready .any ops listed) (h:gY ops listed i m j=true):j∉Region.ready .any ops listed:=by
 intro Y;cases m with
 |zero=>cases h
 |succ m =>
  obtain⟨oj,U,e,he,Z,hc⟩:=uA h;obtain⟨_,oj',I,J⟩:=mem_ready.1 Y;rw[U] at I;cases I;have h1:=J e he Z
  have hu:listed.getD e.on true=false:=by
   rcases hc with hc|hc
   · rw[hc];exact(mem_ready.1 hi).1
   · exact hc.1
  rcases Nat.lt_or_ge e.on listed.size with h'|h'
  · simp[h'] at hu h1;rw[hu] at h1;cases h1
  · simp[Array.getElem?_eq_none h'] at h1
theorem uB {listed:Array Bool}{i j:Nat}(hi:i∈Region.ready .any ops listed) (U:j∈Region.ready .any ops listed):∀(m k:Nat),gY ops listed i m k=true->gY ops (listed.setIfInBounds j true) i m k=true
 | 0,_,h=>by cases h
 |m+1,k,h=>by
  obtain⟨ok,I,e,he,Z,hc⟩:=uA h;refine zF I he Z (hc.imp id fun⟨h1,Y⟩=>⟨?_,uB hi U m _ Y⟩);have J:j≠e.on:=λq=>wh hi Y (q▸U)
  rw[getD_set_ne true J];exact h1
theorem yF (hi:ops[i]? =some oi) (Y:∀(j:Nat) (o:Oper) cs b,ops[j]? =some o->o.op≠ .select cs b)
 (hQ:∀c a w,Q (.panic c) (a.put oi.dst v) w->Q (.panic c) a w) :
 ∀(fuel:Nat) (listed:Array Bool) (a:Act) (w:World),
  (∀j oj,ops[j]? =some oj->j≠i->listed.getD j true=false->(∃m,gY ops listed i m j=true)\/(keeps j=true/\oi.apart ops oj=true)) ->
  i∈Region.ready .any ops listed->gv P ops M oi v a w ->
  DU P ops M keeps Q fuel (listed.setIfInBounds i true) (a.put oi.dst v) w->DU P ops M keeps Q (fuel+1) listed a w:=by
 intro fuel
 induction fuel with
 |zero =>
  intro listed a w _ hr hy H;refine⟨λh=>(by rw[h] at hr;cases hr),λj hj=>?_⟩
  by_cases I:j=i
  · subst I;exact hy.wpOp hi ⟨λ_=>Ext.refl _ _,H⟩
  · have:=ready_mono hj I;rw[H.1] at this;cases this
 |succ fuel ih =>
  intro listed a w J hr hy H;refine⟨λh=>(by rw[h] at hr;cases hr),λj hj=>?_⟩
  by_cases I:j=i
  · subst I;exact hy.wpOp hi ⟨λ_=>Ext.refl _ _,H⟩
  · have h1:=H.2 j (ready_mono hj I);obtain⟨Z,oj,aa,hall⟩:=mem_ready.1 hj;obtain⟨ae,ad⟩:=(J j oj aa I Z).resolve_left fun⟨m,hm⟩=>wh hr hm hj
    have ak:=wpOp_mono (K':=λa' w'=>Ext M w.heap w'.heap/\DU P ops M keeps Q fuel ((listed.setIfInBounds i true).setIfInBounds j true) a' w') (λa' w' hh=>⟨hh.1 ae,hh.2⟩) h1;have h2:=Gt aa ad (λcs b=>Y i oi cs b hi) (λcs b=>Y j oj cs b aa) hQ hy ak
    have U:∀k ok,ops[k]? =some ok->k≠i->(listed.setIfInBounds j true).getD k true=false ->
     (∃m,gY ops (listed.setIfInBounds j true) i m k=true)\/(keeps k=true/\oi.apart ops ok=true):=λk ok hk ag ab=>by
     refine(J k ok hk ag ?_).imp (fun⟨m,hm⟩=>⟨m,uB hr hj m k hm⟩) id
     by_cases ac:j=k
     · subst ac;exact Z
     · rw[getD_set_ne true ac] at ab;exact ab
    refine wpOp_mono (λa' w' h3=>⟨λ_=>h3.1,ih (listed.setIfInBounds j true) a' w' U (ready_mono hr (Ne.symm I)) h3.2.1 ?_⟩) h2;rw[Array.setIfInBounds_comm _ _ I];exact h3.2.2
def xW (ops:Array Oper) (keeps:Nat->Bool) (listed:Array Bool) (i:Nat):Bool :=
 match ops[i]? with
 |none=>false
 |some oi=>(List.range ops.size).all λj=>j ==i ||listed.getD j true ||match ops[j]? with
  |some oj=>oj.after.any (λe=>Region.binds .any e && e.on ==i) ||((keeps j && oi.apart ops oj) ||gY ops listed i 6 j)
  |none=>true
theorem xV (hi:ops[i]? =some oi) (h:xW ops keeps listed i=true) (j:Nat) (oj:Oper)
 (U:ops[j]? =some oj) (J:j≠i) (I:listed.getD j true=false):(∃m,gY ops listed i m j=true)\/(keeps j=true/\oi.apart ops oj=true):=by
 simp only[xW,hi,List.all_eq_true,List.mem_range] at h;have h1:=h j (Array.getElem?_eq_some_iff.1 U).1;simp only[U,Bool.or_eq_true,beq_iff_eq,J,false_or,I,Bool.false_eq_true] at h1
 rcases h1 with h1|h1|h1
 · obtain⟨e,he,Y⟩:=Array.any_eq_true'.1 h1;simp only[Bool.and_eq_true,beq_iff_eq] at Y;exact .inl ⟨1,zF U he Y.1 (.inl Y.2)⟩
 · exact .inr (by simpa using h1)
 · exact .inl ⟨6,h1⟩
end
def RD (P:Program) (n:Nat) (ops:Array Oper) (M:Nat->Prop) (keeps:Nat->Bool) (fuel:Nat) (listed:Array Bool) (ρ:Env) (h:aq) (N:Env->aq->Prop) (X:List PanicEntry->aq->Prop):Prop :=
 ∀B a w,Fits n ρ a->At B h w->DU P ops M keeps (λe a' w'=>match e with
  |.normal=>∃ρ' h',Fits n ρ' a'/\At B h' w'/\N ρ' h'
  |.panic ch=>a'.defers=[]/\∃h',At B h' w'/\X ch h'
  |_=>False) fuel listed a w
section
variable {P:Program}{n:Nat}{ops:Array Oper}{M:Nat->Prop}{keeps:Nat->Bool}{fuel:Nat}{listed:Array Bool}{ρ:Env}{h:aq}{N:Env->aq->Prop}{X:List PanicEntry->aq->Prop}
theorem RD.take (i:Nat) (U:nth ops.toList i=some o) (hs:Region.noSelect ops=true) (hf:xW ops keeps listed i=true) (hr:(Region.ready .any ops listed).contains i=true)
 (hw:aW ops ρ o=some true) (J:o.dst=od) (hd:ou n od=true) (k:∀h',Ext M h h'->az P o ρ h' v) (hl:listed.setIfInBounds i true=listed')
 (next:RD P n ops M keeps fuel listed' (ρ.put od v) h N X):RD P n ops M keeps (fuel+1) listed ρ h N X:=by
 subst hl;subst J;have ho:=jb U;intro B a w I ha;refine yF ho (Region.noSelect_spec hs) (λc a w Z=>⟨by cases Y:o.dst<;>simpa [Act.put,Y] using Z.1,Z.2⟩) fuel listed a w (xV ho hf) (by simpa using hr) (.inl ⟨fy I hw,λw' he=>?_⟩) (next B _ w (I.put hd v) ha);rw[ha.heap] at he;exact k w'.heap he n w' a w' I (At.refl w')
theorem Lo (i:Nat) (U:nth ops.toList i=some o) (hs:Region.noSelect ops=true) (hf:xW ops keeps listed i=true) (hr:(Region.ready .any ops listed).contains i=true)
 (hw:aW ops ρ o=some false) (J:o.dst=od) (hd:ou n od=true) (hl:listed.setIfInBounds i true=listed')
 (next:RD P n ops M keeps fuel listed' (ρ.put od undef) h N X):RD P n ops M keeps (fuel+1) listed ρ h N X:=by
 subst hl;subst J;have ho:=jb U;intro B a w I ha;exact yF ho (Region.noSelect_spec hs) (λc a w Z=>⟨by cases Y:o.dst<;>simpa [Act.put,Y] using Z.1,Z.2⟩) fuel listed a w (xV ho hf) (by simpa using hr) (.inr ⟨fy I hw,rfl⟩) (next B _ w (I.put hd _) ha)
theorem RD.one (i:Nat){Φ:Value->aq->Prop}(Y:nth ops.toList i=some o) (hr:Region.ready .any ops listed=[i])
 (hw:aW ops ρ o=some true) (U:o.dst=od) (hd:ou n od=true) (k:aV P o ρ h Φ X) (hl:listed.setIfInBounds i true=listed')
 (next:∀v h',Φ v h'->(keeps i=true->Ext M h h')/\RD P n ops M keeps fuel listed' (ρ.put od v) h' N X):RD P n ops M keeps (fuel+1) listed ρ h N X:=by
 subst hl;subst U;have ho:=jb Y;intro B a w I ha;refine⟨λh0=>(by rw[hr] at h0;cases h0),λj Z=>?_⟩;rw[hr] at Z;obtain rfl:j=i:=by simpa using Z
 unfold wpOp;simp only[ho];rw[fy I hw,if_pos rfl];refine .inl (k n B a w I ha _ _ (λv h' w' J hv=>?_) (λch h' w' J hx=>⟨I.nd,h',J,hx⟩));obtain⟨h1,h2⟩:=next v h' hv
 exact⟨λhk=>by rw[ha.heap,J.heap];exact h1 hk,h2 B _ w' (I.put hd v) J⟩
theorem M8 (i j:Nat){Φ Φ':Value->aq->Prop}{li lj:Array Bool}(ak:nth ops.toList i=some oi) (ag:nth ops.toList j=some oj) (hr:Region.ready .any ops listed=[i,j])
 (ac:aW ops ρ oi=some true) (ab:aW ops ρ oj=some true){di dj:Option Nat}(aa:oi.dst=di) (Z:oj.dst=dj) (am:ou n di=true) (al:ou n dj=true) (ki:aV P oi ρ h Φ X) (kj:aV P oj ρ h Φ' X)
 (ae:listed.setIfInBounds i true=li) (ad:listed.setIfInBounds j true=lj)
 (Y:∀v h',Φ v h'->(keeps i=true->Ext M h h')/\RD P n ops M keeps fuel li (ρ.put di v) h' N X)
 (U:∀v h',Φ' v h'->(keeps j=true->Ext M h h')/\RD P n ops M keeps fuel lj (ρ.put dj v) h' N X):RD P n ops M keeps (fuel+1) listed ρ h N X:=by
 subst ae;subst ad;subst aa;subst Z;have hi:=jb ak;have hj:=jb ag;intro B a w J ha;refine⟨λh0=>(by rw[hr] at h0;cases h0),λk hk=>?_⟩;rw[hr] at hk;have:k=i\/k=j:=by simpa using hk
 rcases this with rfl|rfl
 · unfold wpOp;simp only[hi];rw[fy J ac,if_pos rfl];refine .inl (ki n B a w J ha _ _ (λv h' w' I hv=>?_) (λch h' w' I hx=>⟨J.nd,h',I,hx⟩));obtain⟨h1,h2⟩:=Y v h' hv;exact⟨λhk=>by rw[ha.heap,I.heap];exact h1 hk,h2 B _ w' (J.put am v) I⟩
 · unfold wpOp;simp only[hj];rw[fy J ab,if_pos rfl];refine .inl (kj n B a w J ha _ _ (λv h' w' I hv=>?_) (λch h' w' I hx=>⟨J.nd,h',I,hx⟩));obtain⟨h1,h2⟩:=U v h' hv;exact⟨λhk=>by rw[ha.heap,I.heap];exact h1 hk,h2 B _ w' (J.put al v) I⟩
theorem BZ (hr:Region.ready .any ops listed=[]) (next:N ρ h):RD P n ops M keeps fuel listed ρ h N X:=by
 intro B a w I U;have J:∃ρ' h',Fits n ρ' a/\At B h' w/\N ρ' h':=⟨ρ,h,I,U,next⟩
 cases fuel with
 |zero=>exact⟨hr,J⟩
 |succ k=>exact⟨λ_=>J,λi hi=>by rw[hr] at hi;cases hi⟩
theorem D1 {d:Nat}{b:Bool}(hb:ρ.at d=some (.bool b)) (Y:b=true->RD P n ops M keeps fuel listed ((d,.bool true)::ρ) h N X) (Z:b=false->RD P n ops M keeps fuel listed ((d,.bool false)::ρ) h N X):RD P n ops M keeps fuel listed ρ h N X:=by
 have key:∀a,Fits n ρ a->Fits n ((d,.bool b)::ρ) a:=λa I=>⟨I.size,λj v J=>by
  rw[Env.fS] at J;split at J
  · rename_i e;subst e;cases J;exact I.ok d _ hb
  · exact I.ok j v J,I.nd⟩
 cases b with
 |true=>exact λB a w I U=>Y rfl B a w (key a I) U
 |false=>exact λB a w I U=>Z rfl B a w (key a I) U
end
section
variable {P:Program}{n:Nat}{ops:Array Oper}{i:Nat}{ρ:Env}{h:aq}{N:Env->aq->Prop}{X:List PanicEntry->aq->Prop}{M:Nat->Prop}{keeps:Nat->Bool}{fuel:Nat}{listed:Array Bool}
theorem RW.HZ {Φ:Value->aq->Prop}(J:nth ops.toList i=some o) (hw:aW ops ρ o=some true) (I:o.dst=some d) (U:Nat.blt d n=true) (k:aV P o ρ h Φ X)
 (next:∀v h',Φ v h'->RW P n ops (i+1) ((d,v)::ρ) h' N X):RW P n ops i ρ h N X:=RW.op J hw I U k next
theorem RW.FN {Φ:Value->aq->Prop}(J:nth ops.toList i=some o) (hw:aW ops ρ o=some true) (I:o.dst=none) (k:aV P o ρ h Φ X)
 (next:∀v h',Φ v h'->RW P n ops (i+1) ρ h' N X):RW P n ops i ρ h N X:=RW.op J hw I rfl k next
theorem RW.cC (J:nth ops.toList i=some o) (hw:aW ops ρ o=some true) (I:o.dst=some d) (U:Nat.blt d n=true) (k:az P o ρ h v)
 (next:RW P n ops (i+1) ((d,v)::ρ) h N X):RW P n ops i ρ h N X:=Lm J hw I U k next
theorem RW.wq (J:nth ops.toList i=some o) (hw:aW ops ρ o=some false) (I:o.dst=some d) (U:Nat.blt d n=true)
 (next:RW P n ops (i+1) ((d,undef)::ρ) h N X):RW P n ops i ρ h N X:=Gf J hw I U next
theorem RW.NV (J:nth ops.toList i=some o) (hw:aW ops ρ o=some false) (I:o.dst=none)
 (next:RW P n ops (i+1) ρ h N X):RW P n ops i ρ h N X:=Gf J hw I rfl next
theorem RD.ND (i:Nat) (J:nth ops.toList i=some o) (hs:Region.noSelect ops=true) (U:xW ops keeps listed i=true) (hr:(Region.ready .any ops listed).contains i=true)
 (hw:aW ops ρ o=some true) (I:o.dst=some d) (Y:Nat.blt d n=true) (k:∀h',Ext M h h'->az P o ρ h' v) (hl:listed.setIfInBounds i true=listed')
 (next:RD P n ops M keeps fuel listed' ((d,v)::ρ) h N X):RD P n ops M keeps (fuel+1) listed ρ h N X:=RD.take i J hs U hr hw I Y k hl next
theorem RD.wq (i:Nat) (J:nth ops.toList i=some o) (hs:Region.noSelect ops=true) (U:xW ops keeps listed i=true) (hr:(Region.ready .any ops listed).contains i=true)
 (hw:aW ops ρ o=some false) (I:o.dst=some d) (Y:Nat.blt d n=true) (hl:listed.setIfInBounds i true=listed')
 (next:RD P n ops M keeps fuel listed' ((d,undef)::ρ) h N X):RD P n ops M keeps (fuel+1) listed ρ h N X:=Lo i J hs U hr hw I Y hl next
theorem RD.P2 (i:Nat){Φ:Value->aq->Prop}(J:nth ops.toList i=some o) (hr:Region.ready .any ops listed=[i])
 (hw:aW ops ρ o=some true) (I:o.dst=some d) (U:Nat.blt d n=true) (k:aV P o ρ h Φ X) (hl:listed.setIfInBounds i true=listed')
 (next:∀v h',Φ v h'->(keeps i=true->Ext M h h')/\RD P n ops M keeps fuel listed' ((d,v)::ρ) h' N X):RD P n ops M keeps (fuel+1) listed ρ h N X:=RD.one i J hr hw I U k hl next
theorem RD.P3 (i:Nat){Φ:Value->aq->Prop}(J:nth ops.toList i=some o) (hr:Region.ready .any ops listed=[i])
 (hw:aW ops ρ o=some true) (I:o.dst=none) (k:aV P o ρ h Φ X) (hl:listed.setIfInBounds i true=listed')
 (next:∀v h',Φ v h'->(keeps i=true->Ext M h h')/\RD P n ops M keeps fuel listed' ρ h' N X):RD P n ops M keeps (fuel+1) listed ρ h N X:=RD.one i J hr hw I rfl k hl next
theorem RD.Py (i j:Nat){Φ Φ':Value->aq->Prop}{li lj:Array Bool}{di dj:Nat}(hi:nth ops.toList i=some oi) (hj:nth ops.toList j=some oj) (hr:Region.ready .any ops listed=[i,j])
 (aa:aW ops ρ oi=some true) (Z:aW ops ρ oj=some true) (Y:oi.dst=some di) (U:oj.dst=some dj) (ae:Nat.blt di n=true) (ad:Nat.blt dj n=true) (ki:aV P oi ρ h Φ X) (kj:aV P oj ρ h Φ' X)
 (ac:listed.setIfInBounds i true=li) (ab:listed.setIfInBounds j true=lj)
 (J:∀v h',Φ v h'->(keeps i=true->Ext M h h')/\RD P n ops M keeps fuel li ((di,v)::ρ) h' N X)
 (I:∀v h',Φ' v h'->(keeps j=true->Ext M h h')/\RD P n ops M keeps fuel lj ((dj,v)::ρ) h' N X):RD P n ops M keeps (fuel+1) listed ρ h N X :=
 M8 i j hi hj hr aa Z Y U ae ad ki kj ac ab J I
theorem RW.bw {b':Bool}(I:ρ.at d=some (.bool b)) (e:b=b') (next:RW P n ops i ((d,.bool b')::ρ) h N X):RW P n ops i ρ h N X:=by
 subst e;refine pR I (λe=>?_) (λe=>?_)<;>(subst e;exact next)
theorem RD.bw {b':Bool}(I:ρ.at d=some (.bool b)) (e:b=b') (next:RD P n ops M keeps fuel listed ((d,.bool b')::ρ) h N X):RD P n ops M keeps fuel listed ρ h N X:=by
 subst e;refine D1 I (λe=>?_) (λe=>?_)<;>(subst e;exact next)
end
end
end Go.Lw
