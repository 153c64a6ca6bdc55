/- What the proof of the statement leans on (part 1). -/
import Derived.Calls
import Derived.Below
import Derived.Deep.Quiet
import Derived.KernelRfl

namespace Go.Lw
section
variable {B w:World}{a:Act}{o oi oj:Oper}{v:Value}{i m j d:Nat}{b:Bool}{od:Option Nat}{listed listed':Array Bool}
abbrev au:=Array Obj
abbrev Env:=List (Nat×Value)
def Env.at:Env->Nat->Option Value
 | [],_=>none
 |(j,v)::r,i=>match Nat.beq j i with|true=>some v|false=>Env.at r i
def Env.put (ρ:Env) (dst:Option Nat) (v:Value):Env:=match dst with|some d=>(d,v)::ρ |none=>ρ
def cellAt (h:au) (a:Addr):Option Value :=
 match h[a.block]? with
 |some (.cells c _ _)=>if a.spot.isSome then none else c[a.off]?
 |_=>none
def frozenAt (h:au) (a:Addr):Bool :=
 match h[a.block]? with
 |some (.cells _ _ (lo,hi))=>lo<=a.off && a.off<hi
 |_=>false
structure At (B:World) (h:au) (w:World):Prop where
 heap:w.heap=h
 os:w.os=B.os
 tape:w.tape=B.tape
 output:w.output=B.output
theorem At.cell {B:World}{h:au}{w:World}(k:At B h w) (a:Addr):w.cell? a=cellAt h a:=by
 rw[<-k.heap];rfl
theorem At.frozen {B:World}{h:au}{w:World}(k:At B h w) (a:Addr):w.frozen? a=frozenAt h a:=by
 rw[<-k.heap];rfl
theorem At.refl (w:World):At w w.heap w:=⟨rfl,rfl,rfl,rfl⟩
theorem At.nr {h:au}(k:At B h w) (h':au):At B h' { w with heap:=h' }:=⟨rfl,k.os,k.tape,k.output⟩
theorem At.drew {h:au}(k:At B h w):At B h { w with drawn:=w.drawn+1 }:=⟨k.heap,k.os,k.tape,k.output⟩
theorem At.base {h:au}(k:At B h w){h':au}{w':World}(k':At w h' w'):At B h' w':=⟨k'.heap,k'.os.trans k.os,k'.tape.trans k.tape,k'.output.trans k.output⟩
structure Fits (n:Nat) (ρ:Env) (a:Act):Prop where
 size:a.tmps.size=n
 ok:∀i v,ρ.at i=some v->a.tmps[i]? =some v
 nd:a.defers=[]
def ir (n:Nat):Option Nat->Bool
 |some d=>Nat.blt d n
 |none=>true
theorem Env.iK (j:Nat) (v:Value) (ρ:Env) (i:Nat):Env.at ((j,v)::ρ) i=if j=i then some v else ρ.at i:=by
 simp only[Env.at]
 by_cases h:j=i
 · subst h;simp
 · have:Nat.beq j i=false:=by
    cases hb:Nat.beq j i
    · rfl
    · exact absurd (Nat.eq_of_beq_eq_true hb) h
   simp[this,h]
theorem Fits.put {n:Nat}{ρ:Env}{a:Act}(f:Fits n ρ a){dst:Option Nat}(hd:ir n dst=true) (v:Value):Fits n (ρ.put dst v) (a.put dst v):=by
 cases dst with
 |none=>exact f
 |some d =>
  have hd':d<n:=Nat.blt_eq.mp hd;refine⟨by simp[Act.put,f.size],fun i u h=>?_,f.nd⟩;simp only[Env.put,Env.iK] at h;simp only[Act.put];split at h
  · rename_i e;subst e;cases h;rw[Array.getElem?_setIfInBounds_self_of_lt (by rw[f.size];exact hd')]
  · rename_i e;rw[Array.getElem?_setIfInBounds_ne e];exact f.ok i u h
def bE (ρ:Env):Operand->Option Value
 |.tmp t=>ρ.at t
 |.const v=>some v
 |.global g=>some (.pointer (some ⟨g,0,none⟩))
 |.func f=>some (.func (.func f) #[] #[])
theorem Fits.eval {n:Nat}{ρ:Env}{a:Act}(f:Fits n ρ a){x:Operand}{v:Value}(h:bE ρ x=some v):a.eval x=v:=by
 cases x with
 |tmp t=>simp only[bE] at h;have:=f.ok t v h;simp[Act.eval,this]
 |const u=>simp only[bE] at h;cases h;rfl
 |global g=>simp only[bE] at h;cases h;rfl
 |func g=>simp only[bE] at h;cases h;rfl
def Sub:Env->Env->Prop
 | [],_=>True
 |(i,v)::r,ρ=>ρ.at i=some v/\Sub r ρ
theorem Sub.at {ρ' ρ:Env}(h:Sub ρ' ρ) (i:Nat) (v:Value) (hi:ρ'.at i=some v):ρ.at i=some v:=by
 induction ρ' with
 |nil=>simp[Env.at] at hi
 |cons p r ih =>
  obtain⟨j,u⟩:=p;rw[Env.iK] at hi;split at hi
  · rename_i e;subst e;cases hi;exact h.1
  · exact ih h.2 hi
theorem Fits.sub {n:Nat}{ρ ρ':Env}(f:Fits n ρ a) (h:Sub ρ' ρ):Fits n ρ' a:=⟨f.size,fun i v hi=>f.ok i v (h.at i v hi),f.nd⟩
def ai (P:Program) (o:Oper) (ρ:Env) (h:au) (v:Value):Prop :=
 ∀n B a w,Fits n ρ a->At B h w->(execOp a.eval o).run P w= .ok (.value v) w
def ax (P:Program) (o:Oper) (ρ:Env) (h:au) (Φ:Value->au->Prop) (X:List PanicEntry->au->Prop):Prop :=
 ∀n B a w,Fits n ρ a->At B h w->∀next Q,(∀v h' w',At B h' w'->Φ v h'->next (a.put o.dst v) w') ->
  (∀ch h' w',At B h' w'->X ch h'->Q (.panic ch) a w')->o.wp P a w next Q
theorem ai.aX {P:Program}{ρ:Env}{h:au}{X:List PanicEntry->au->Prop}(k:ai P o ρ h v):ax P o ρ h (fun u h'=>u=v/\h'=h) X:=by
 intro n B a w hf ha next Q hn _
 unfold Oper.wp;rw[k n B a w hf ha];exact hn v h w ha ⟨rfl,rfl⟩
theorem ax.mono {P:Program}{ρ:Env}{h:au}{Φ Φ':Value->au->Prop}{X X':List PanicEntry->au->Prop}(k:ax P o ρ h Φ X) (h1:∀v h',Φ v h'->Φ' v h') (h2:∀c h',X c h'->X' c h'):ax P o ρ h Φ' X' :=
 fun n B a w hf ha next Q hn hq=>k n B a w hf ha next Q (fun v h' w' ha' hv=>hn v h' w' ha' (h1 _ _ hv)) (fun c h' w' ha' hv=>hq c h' w' ha' (h2 _ _ hv))
def nth:List Oper->Nat->Option Oper
 | [],_=>none
 |a::_,0=>some a
 |_::l,n+1=>nth l n
theorem BA:∀(l:List Oper) (i:Nat),nth l i=l[i]?
 | [],_=>rfl
 |_::_,0=>rfl
 |_::l,n+1=>by simpa [nth] using BA l n
theorem dN {ops:Array Oper}(h:nth ops.toList i=some o):ops[i]? =some o:=by
 rw[BA] at h;simpa using h
def bL (ops:Array Oper) (ρ:Env) (o:Oper):Option Bool :=
 match o.guard with
 |none=>some true
 |some (j,want) =>
  match (nth ops.toList j).bind (·.dst) with
  |none=>none
  |some d=>match ρ.at d with
   |some (.bool b)=>some (b ==want)
   |some (.tuple _)=>some false
   |_=>none
theorem cN {n:Nat}{ops:Array Oper}{ρ:Env}(f:Fits n ρ a) (h:bL ops ρ o=some b):Region.wanted o (yielded ops a.tmps)=b:=by
 unfold bL at h;unfold Region.wanted;cases hg:o.guard with
 |none=>simp[hg] at h;simp[h]
 |some p =>
  obtain⟨j,want⟩:=p;simp only[hg] at h;unfold yielded;rw[BA,Array.getElem?_toList] at h;cases ho:ops[j]? with
  |none=>simp[ho] at h
  |some oj =>
   simp only[ho,Option.bind_some] at h ⊢;cases hdst:oj.dst with
   |none=>simp[hdst] at h
   |some d =>
    simp only[hdst,Option.bind_some] at h ⊢;cases hv:ρ.at d with
    |none=>simp[hv] at h
    |some v =>
     rw[f.ok d v hv];simp only[hv] at h;cases v<;>simp at h ⊢ <;>first|exact h|(rw[h])
def RW (P:Program) (n:Nat) (ops:Array Oper) (i:Nat) (ρ:Env) (h:au) (N:Env->au->Prop) (X:List PanicEntry->au->Prop):Prop :=
 ∀B a w,Fits n ρ a->At B h w->∀Q:Exit->Act->World->Prop,(∀ρ' h' a' w',Fits n ρ' a'->At B h' w'->N ρ' h'->Q .normal a' w') ->
  (∀ch h' a' w',a'.defers=[]->At B h' w'->X ch h'->Q (.panic ch) a' w')->wpOps P ops Q ((List.range ops.size).drop i) a w
section
variable {P:Program}{n:Nat}{ops:Array Oper}{i:Nat}{ρ:Env}{h:au}{N:Env->au->Prop}{X:List PanicEntry->au->Prop}
theorem eP (hi:i<m):(List.range m).drop i=i::(List.range m).drop (i+1):=by
 rw[List.drop_eq_getElem_cons (by simpa using hi)];simp
theorem fK (ho:ops[i]? =some o):i<ops.size:=by
 rcases Nat.lt_or_ge i ops.size with h|h
 · exact h
 · simp[Array.getElem?_eq_none h] at ho
theorem RW.op {Φ:Value->au->Prop}(ho':nth ops.toList i=some o) (hw:bL ops ρ o=some true) (hod:o.dst=od) (hd:ir n od=true) (k:ax P o ρ h Φ X)
 (next:∀v h',Φ v h'->RW P n ops (i+1) (ρ.put od v) h' N X):RW P n ops i ρ h N X:=by
 subst hod;have ho:=dN ho';intro B a w hf ha Q hN hX;rw[eP (fK ho)];simp only[wpOps,ho];rw[cN hf hw,if_pos rfl];refine .inl (k n B a w hf ha _ _ (fun v h' w' ha' hv=>?_) (fun ch h' w' ha' hx=>hX ch h' a w' hf.nd ha' hx));exact next v h' hv B _ w' (hf.put hd v) ha' Q hN hX
theorem IN (ho:nth ops.toList i=some o) (hw:bL ops ρ o=some true) (hod:o.dst=od) (hd:ir n od=true) (k:ai P o ρ h v)
 (next:RW P n ops (i+1) (ρ.put od v) h N X):RW P n ops i ρ h N X :=
 RW.op ho hw hod hd k.aX (fun _ _ ⟨hv,hh⟩=>by subst hv;subst hh;exact next)
theorem IM (ho':nth ops.toList i=some o) (hw:bL ops ρ o=some false) (hod:o.dst=od) (hd:ir n od=true)
 (next:RW P n ops (i+1) (ρ.put od undef) h N X):RW P n ops i ρ h N X:=by
 subst hod;have ho:=dN ho';intro B a w hf ha Q hN hX;rw[eP (fK ho)];simp only[wpOps,ho];rw[cN hf hw,if_neg (by simp)];exact next B _ w (hf.put hd _) ha Q hN hX
theorem RW.done (hi:Nat.ble ops.size i=true) (next:N ρ h):RW P n ops i ρ h N X:=by
 intro B a w hf ha Q hN _;have:ops.size<=i:=Nat.le_of_ble_eq_true hi;rw[List.drop_eq_nil_of_le (by simpa using this)];exact hN ρ h a w hf ha next
theorem bI {d:Nat}{b:Bool}(hb:ρ.at d=some (.bool b)) (ht:b=true->RW P n ops i ((d,.bool true)::ρ) h N X) (hn:b=false->RW P n ops i ((d,.bool false)::ρ) h N X):RW P n ops i ρ h N X:=by
 have key:∀a,Fits n ρ a->Fits n ((d,.bool b)::ρ) a:=fun a hf=>⟨hf.size,fun j v hv=>by
  rw[Env.iK] at hv;split at hv
  · rename_i e;subst e;cases hv;exact hf.ok d _ hb
  · exact hf.ok j v hv,hf.nd⟩
 cases b with
 |true=>exact fun B a w hf ha=>ht rfl B a w (key a hf) ha
 |false=>exact fun B a w hf ha=>hn rfl B a w (key a hf) ha
end
structure Ext (M:Nat->Prop) (h h':au):Prop where
 size:h.size<=h'.size
 block:∀b,b<h.size->¬M b->h'[b]? =h[b]?
theorem Ext.refl (M:Nat->Prop) (h:au):Ext M h h:=⟨Nat.le_refl _,fun _ _ _=>rfl⟩
theorem Ext.trans {M:Nat->Prop}{a b c:au}(h:Ext M a b) (k:Ext M b c):Ext M a c :=
 ⟨Nat.le_trans h.size k.size,fun i hi hm=>(k.block i (Nat.lt_of_lt_of_le hi h.size) hm).trans (h.block i hi hm)⟩
theorem Ext.mono {M M':Nat->Prop}{a b:au}(h:Ext M a b) (hm:∀i,i<a.size->M i->M' i):Ext M' a b :=
 ⟨h.size,fun i hi hn=>h.block i hi (fun k=>hn (hm i hi k))⟩
theorem cL {h:au}{a:Addr}(k:cellAt h a=some v):a.block<h.size:=by
 rcases Nat.lt_or_ge a.block h.size with hl|hl
 · exact hl
 · simp[cellAt,Array.getElem?_eq_none hl] at k
theorem Ext.cell {M:Nat->Prop}{h h':au}(e:Ext M h h'){a:Addr}(hm:¬M a.block) (k:cellAt h a=some v):cellAt h' a=some v:=by
 have:=e.block a.block (cL k) hm;unfold cellAt at *;rw[this];exact k
def uv (P:Program) (ops:Array Oper) (M:Nat->Prop) (keeps:Nat->Bool) (Q:Exit->Act->World->Prop):Nat->Array Bool->Act->World->Prop
 | 0,listed,a,w=>Region.ready .any ops listed=[]/\Q .normal a w
 |fuel+1,listed,a,w =>
  (Region.ready .any ops listed=[]->Q .normal a w) /\
  ∀i∈Region.ready .any ops listed,wpOp P ops Q i (fun a' w'=>(keeps i=true->Ext M w.heap w'.heap)/\uv P ops M keeps Q fuel (listed.setIfInBounds i true) a' w') a w
section
variable {P:Program}{ops:Array Oper}{M:Nat->Prop}{keeps:Nat->Bool}{Q:Exit->Act->World->Prop}
theorem lT:∀(fuel:Nat) (listed:Array Bool) (a:Act) (w:World),uv P ops M keeps Q fuel listed a w->wpAny P .any ops Q fuel listed a w
 | 0,_,_,_,h=>h
 |fuel+1,_,_,_,h=>⟨h.1,fun i hi=>wpOp_mono (fun a' w' h'=>lT fuel _ a' w' h'.2) (h.2 i hi)⟩
def eK (P:Program) (ops:Array Oper) (M:Nat->Prop) (o:Oper) (v:Value) (a:Act) (w:World):Prop :=
 (Region.wanted o (yielded ops a.tmps)=true/\∀w',Ext M w.heap w'.heap->(execOp a.eval o).run P w'= .ok (.value v) w') \/
 (Region.wanted o (yielded ops a.tmps)=false/\v=undef)
theorem eK.wpOp {i:Nat}{o:Oper}{v:Value}{a:Act}{w:World}(hi:ops[i]? =some o) (hy:eK P ops M o v a w)
 {K:Act->World->Prop}(h:K (a.put o.dst v) w):wpOp P ops Q i K a w:=by
 unfold Go.wpOp;simp only[hi]
 rcases hy with ⟨hw,hv⟩|⟨hw,rfl⟩
 · simp only[hw,if_true,Oper.wp,hv w (Ext.refl _ _),Oper.upon];exact .inl h
 · simp only[hw,Bool.false_eq_true,if_false];exact h
theorem eK.of_same {a':Act}{w':World}(hy:eK P ops M o v a w) (he:execOp a'.eval o=execOp a.eval o)
 (hw:Region.wanted o (yielded ops a'.tmps)=Region.wanted o (yielded ops a.tmps)) (hE:Ext M w.heap w'.heap):eK P ops M o v a' w':=by
 unfold eK at *;rw[he,hw]
 rcases hy with ⟨h1,h2⟩|h
 · exact .inl ⟨h1,fun w'' h''=>h2 w'' (hE.trans h'')⟩
 · exact .inr h
theorem Dw (hj:ops[j]? =some oj) (hap:oi.apart ops oj=true)
 (hsi:∀cs b,oi.op≠ .select cs b) (hsj:∀cs b,oj.op≠ .select cs b)
 (hQ:∀c a w,Q (.panic c) (a.put oi.dst v) w->Q (.panic c) a w){K:Act->World->Prop}
 (hy:eK P ops M oi v a w) (h:Go.wpOp P ops Q j (fun a' w'=>Ext M w.heap w'.heap/\K a' w') (a.put oi.dst v) w) :
 Go.wpOp P ops Q j (fun a' w'=>Ext M w.heap w'.heap/\eK P ops M oi v a' w'/\K (a'.put oi.dst v) w') a w:=by
 obtain⟨h1,h2,h3⟩:=Oper.apart_spec hap
 have keep:∀(a:Act) (w w':World),eK P ops M oi v a w->Ext M w.heap w'.heap->∀u,eK P ops M oi v (a.put oj.dst u) w':=fun a w w' hy he u =>
  hy.of_same (execOp_put oi hsi a oj.dst u h3) (wanted_put oi a oj.dst u h3) he
 have keepD:∀d (w':World),Ext M w.heap w'.heap->eK P ops M oi v { a with defers:=d::a.defers } w':=fun d w' he=>hy.of_same rfl rfl he
 unfold Go.wpOp at *;simp only[hj] at *;rw[wanted_put oj a oi.dst v h1] at h;split
 · rename_i hw;simp only[hw,if_true] at h
   rcases h with h|⟨hasks,hlets⟩
   case inr=>exact .inr ⟨by unfold Oper.asks at *;rw[execOp_put oj hsj a oi.dst v h1] at hasks;exact hasks,hlets⟩
   refine .inl ?_;unfold Oper.wp at *;rw[execOp_put oj hsj a oi.dst v h1] at h;generalize (execOp a.eval oj).run P w=r at *;cases r with
   |ok n w' =>
    cases n<;>simp only[Oper.upon] at h ⊢
    case value u=>exact⟨h.1,keep _ _ _ hy h.1 u,by rw[<-Act.put_comm a v u h2];exact h.2⟩
    case skip=>exact⟨h.1,keep _ _ _ hy h.1 undef,by rw[<-Act.put_comm a v undef h2];exact h.2⟩
    case defer d =>
     refine⟨h.1,?_,?_⟩
     · exact(keepD d w' h.1).of_same (execOp_put oi hsi _ oj.dst undef h3) (wanted_put oi _ oj.dst undef h3) (Ext.refl _ _)
     · have hk:=h.2;rw[Act.put_defers] at hk;rw[<-Act.put_comm _ v undef h2];exact hk
    case enter f args =>
     refine h.mono fun e w'' hr=>?_
     cases e with
     |returned u=>exact⟨hr.1,keep _ _ _ hy hr.1 u,by rw[<-Act.put_comm a v u h2];exact hr.2⟩
     |panicked c=>exact hQ c a w'' hr
     |outgrown=>exact hr
    case row row args =>
     exact h.mono fun u w'' hr=>⟨hr.1,keep _ _ _ hy hr.1 u,by rw[<-Act.put_comm a v u h2];exact hr.2⟩
   |halt x w' =>
    cases x<;>simp only[Oper.upon] at h ⊢
    case panic u=>exact hQ _ a w' h
 · rename_i hw;simp only[hw] at h;exact⟨h.1,keep _ _ _ hy h.1 _,by rw[<-Act.put_comm a v undef h2];exact h.2⟩
def dK (ops:Array Oper) (listed:Array Bool) (i:Nat):Nat->Nat->Bool
 | 0,_=>false
 |m+1,j=>match ops[j]? with
  |some oj=>oj.after.any fun e=>Region.binds .any e && (e.on ==i ||(!(listed.getD e.on true) && dK ops listed i m e.on))
  |none=>false
theorem oO (h:dK ops listed i (m+1) j=true):∃oj,ops[j]? =some oj/\∃e∈oj.after,Region.binds .any e=true/\(e.on=i\/(listed.getD e.on true=false/\dK ops listed i m e.on=true)):=by
 unfold dK at h;split at h
 · rename_i oj hoj;obtain⟨e,he,hb⟩:=Array.any_eq_true'.1 h;simp only[Bool.and_eq_true,Bool.or_eq_true,beq_iff_eq,Bool.not_eq_true'] at hb;exact⟨oj,hoj,e,he,hb⟩
 · cases h
theorem nX (hoj:ops[j]? =some oj){e:Edge}(he:e∈oj.after) (hb:Region.binds .any e=true) (h:e.on=i\/(listed.getD e.on true=false/\dK ops listed i m e.on=true)):dK ops listed i (m+1) j=true:=by
 unfold dK;rw[hoj];refine Array.any_eq_true'.2 ⟨e,he,?_⟩;simp only[Bool.and_eq_true,Bool.or_eq_true,beq_iff_eq,Bool.not_eq_true'];exact⟨hb,h⟩
theorem mq (hi:i∈Region.ready .any ops listed) (h:dK ops listed i m j=true):j∉Region.ready .any ops listed:=by
 intro hj;cases m with
 |zero=>cases h
 |succ m =>
  obtain⟨oj,hoj,e,he,hb,hc⟩:=oO h;obtain⟨_,oj',hoj',hall⟩:=mem_ready.1 hj;rw[hoj] at hoj';cases hoj';have h1:=hall e he hb
  have hu:listed.getD e.on true=false:=by
   rcases hc with hc|hc
   · rw[hc];exact(mem_ready.1 hi).1
   · exact hc.1
  rcases Nat.lt_or_ge e.on listed.size with h'|h'
  · simp[h'] at hu h1;rw[hu] at h1;cases h1
  · simp[Array.getElem?_eq_none h'] at h1
theorem kH {listed:Array Bool}{i j:Nat}(hi:i∈Region.ready .any ops listed) (hj:j∈Region.ready .any ops listed):∀(m k:Nat),dK ops listed i m k=true->dK ops (listed.setIfInBounds j true) i m k=true
 | 0,_,h=>by cases h
 |m+1,k,h=>by
  obtain⟨ok,hok,e,he,hb,hc⟩:=oO h;refine nX hok he hb (hc.imp id fun⟨h1,h2⟩=>⟨?_,kH hi hj m _ h2⟩);have hne:j≠e.on:=fun q=>mq hi h2 (q▸hj)
  rw[getD_set_ne true hne];exact h1
theorem tE (hi:ops[i]? =some oi) (hsel:∀(j:Nat) (o:Oper) cs b,ops[j]? =some o->o.op≠ .select cs b)
 (hQ:∀c a w,Q (.panic c) (a.put oi.dst v) w->Q (.panic c) a w) :
 ∀(fuel:Nat) (listed:Array Bool) (a:Act) (w:World),
  (∀j oj,ops[j]? =some oj->j≠i->listed.getD j true=false->(∃m,dK ops listed i m j=true)\/(keeps j=true/\oi.apart ops oj=true)) ->
  i∈Region.ready .any ops listed->eK P ops M oi v a w ->
  uv P ops M keeps Q fuel (listed.setIfInBounds i true) (a.put oi.dst v) w->uv P ops M keeps Q (fuel+1) listed a w:=by
 intro fuel
 induction fuel with
 |zero =>
  intro listed a w _ hr hy H;refine⟨fun h=>(by rw[h] at hr;cases hr),fun j hj=>?_⟩
  by_cases hji:j=i
  · subst hji;exact hy.wpOp hi ⟨fun _=>Ext.refl _ _,H⟩
  · have:=ready_mono hj hji;rw[H.1] at this;cases this
 |succ fuel ih =>
  intro listed a w hfree hr hy H;refine⟨fun h=>(by rw[h] at hr;cases hr),fun j hj=>?_⟩
  by_cases hji:j=i
  · subst hji;exact hy.wpOp hi ⟨fun _=>Ext.refl _ _,H⟩
  · have h1:=H.2 j (ready_mono hj hji);obtain⟨hjun,oj,hoj,hall⟩:=mem_ready.1 hj;obtain⟨hkj,hapj⟩:=(hfree j oj hoj hji hjun).resolve_left fun⟨m,hm⟩=>mq hr hm hj
    have h1':=wpOp_mono (K':=fun a' w'=>Ext M w.heap w'.heap/\uv P ops M keeps Q fuel ((listed.setIfInBounds i true).setIfInBounds j true) a' w') (fun a' w' hh=>⟨hh.1 hkj,hh.2⟩) h1;have h2:=Dw hoj hapj (fun cs b=>hsel i oi cs b hi) (fun cs b=>hsel j oj cs b hoj) hQ hy h1'
    have hfree':∀k ok,ops[k]? =some ok->k≠i->(listed.setIfInBounds j true).getD k true=false ->
     (∃m,dK ops (listed.setIfInBounds j true) i m k=true)\/(keeps k=true/\oi.apart ops ok=true):=fun k ok hk hki hun=>by
     refine(hfree k ok hk hki ?_).imp (fun⟨m,hm⟩=>⟨m,kH hr hj m k hm⟩) id
     by_cases hjk:j=k
     · subst hjk;exact hjun
     · rw[getD_set_ne true hjk] at hun;exact hun
    refine wpOp_mono (fun a' w' h3=>⟨fun _=>h3.1,ih (listed.setIfInBounds j true) a' w' hfree' (ready_mono hr (Ne.symm hji)) h3.2.1 ?_⟩) h2;rw[Array.setIfInBounds_comm _ _ hji];exact h3.2.2
def sG (ops:Array Oper) (keeps:Nat->Bool) (listed:Array Bool) (i:Nat):Bool :=
 match ops[i]? with
 |none=>false
 |some oi=>(List.range ops.size).all fun j=>j ==i ||listed.getD j true ||match ops[j]? with
  |some oj=>oj.after.any (fun e=>Region.binds .any e && e.on ==i) ||((keeps j && oi.apart ops oj) ||dK ops listed i 6 j)
  |none=>true
theorem sF (hi:ops[i]? =some oi) (h:sG ops keeps listed i=true) (j:Nat) (oj:Oper)
 (hj:ops[j]? =some oj) (hne:j≠i) (hun:listed.getD j true=false):(∃m,dK ops listed i m j=true)\/(keeps j=true/\oi.apart ops oj=true):=by
 simp only[sG,hi,List.all_eq_true,List.mem_range] at h;have h1:=h j (Array.getElem?_eq_some_iff.1 hj).1;simp only[hj,Bool.or_eq_true,beq_iff_eq,hne,false_or,hun,Bool.false_eq_true] at h1
 rcases h1 with h1|h1|h1
 · obtain⟨e,he,hb⟩:=Array.any_eq_true'.1 h1;simp only[Bool.and_eq_true,beq_iff_eq] at hb;exact .inl ⟨1,nX hj he hb.1 (.inl hb.2)⟩
 · exact .inr (by simpa using h1)
 · exact .inl ⟨6,h1⟩
end
def RD (P:Program) (n:Nat) (ops:Array Oper) (M:Nat->Prop) (keeps:Nat->Bool) (fuel:Nat) (listed:Array Bool) (ρ:Env) (h:au) (N:Env->au->Prop) (X:List PanicEntry->au->Prop):Prop :=
 ∀B a w,Fits n ρ a->At B h w->uv P ops M keeps (fun e a' w'=>match e with
  |.normal=>∃ρ' h',Fits n ρ' a'/\At B h' w'/\N ρ' h'
  |.panic ch=>a'.defers=[]/\∃h',At B h' w'/\X ch h'
  |_=>False) fuel listed a w
section
variable {P:Program}{n:Nat}{ops:Array Oper}{M:Nat->Prop}{keeps:Nat->Bool}{fuel:Nat}{listed:Array Bool}{ρ:Env}{h:au}{N:Env->au->Prop}{X:List PanicEntry->au->Prop}
theorem RD.take (i:Nat) (ho':nth ops.toList i=some o) (hs:Region.noSelect ops=true) (hf:sG ops keeps listed i=true) (hr:(Region.ready .any ops listed).contains i=true)
 (hw:bL ops ρ o=some true) (hod:o.dst=od) (hd:ir n od=true) (k:∀h',Ext M h h'->ai P o ρ h' v) (hl:listed.setIfInBounds i true=listed')
 (next:RD P n ops M keeps fuel listed' (ρ.put od v) h N X):RD P n ops M keeps (fuel+1) listed ρ h N X:=by
 subst hl;subst hod;have ho:=dN ho';intro B a w hf' ha;refine tE ho (Region.noSelect_spec hs) (fun c a w hq=>⟨by cases hdd:o.dst<;>simpa [Act.put,hdd] using hq.1,hq.2⟩) fuel listed a w (sF ho hf) (by simpa using hr) (.inl ⟨cN hf' hw,fun w' he=>?_⟩) (next B _ w (hf'.put hd v) ha);rw[ha.heap] at he;exact k w'.heap he n w' a w' hf' (At.refl w')
theorem IP (i:Nat) (ho':nth ops.toList i=some o) (hs:Region.noSelect ops=true) (hf:sG ops keeps listed i=true) (hr:(Region.ready .any ops listed).contains i=true)
 (hw:bL ops ρ o=some false) (hod:o.dst=od) (hd:ir n od=true) (hl:listed.setIfInBounds i true=listed')
 (next:RD P n ops M keeps fuel listed' (ρ.put od undef) h N X):RD P n ops M keeps (fuel+1) listed ρ h N X:=by
 subst hl;subst hod;have ho:=dN ho';intro B a w hf' ha;exact tE ho (Region.noSelect_spec hs) (fun c a w hq=>⟨by cases hdd:o.dst<;>simpa [Act.put,hdd] using hq.1,hq.2⟩) fuel listed a w (sF ho hf) (by simpa using hr) (.inr ⟨cN hf' hw,rfl⟩) (next B _ w (hf'.put hd _) ha)
theorem RD.one (i:Nat){Φ:Value->au->Prop}(ho':nth ops.toList i=some o) (hr:Region.ready .any ops listed=[i])
 (hw:bL ops ρ o=some true) (hod:o.dst=od) (hd:ir n od=true) (k:ax P o ρ h Φ X) (hl:listed.setIfInBounds i true=listed')
 (next:∀v h',Φ v h'->(keeps i=true->Ext M h h')/\RD P n ops M keeps fuel listed' (ρ.put od v) h' N X):RD P n ops M keeps (fuel+1) listed ρ h N X:=by
 subst hl;subst hod;have ho:=dN ho';intro B a w hf' ha;refine⟨fun h0=>(by rw[hr] at h0;cases h0),fun j hj=>?_⟩;rw[hr] at hj;obtain rfl:j=i:=by simpa using hj
 unfold wpOp;simp only[ho];rw[cN hf' hw,if_pos rfl];refine .inl (k n B a w hf' ha _ _ (fun v h' w' ha' hv=>?_) (fun ch h' w' ha' hx=>⟨hf'.nd,h',ha',hx⟩));obtain⟨h1,h2⟩:=next v h' hv
 exact⟨fun hk=>by rw[ha.heap,ha'.heap];exact h1 hk,h2 B _ w' (hf'.put hd v) ha'⟩
theorem K3 (i j:Nat){Φ Φ':Value->au->Prop}{li lj:Array Bool}(hi':nth ops.toList i=some oi) (hj':nth ops.toList j=some oj) (hr:Region.ready .any ops listed=[i,j])
 (hwi:bL ops ρ oi=some true) (hwj:bL ops ρ oj=some true){di dj:Option Nat}(hodi:oi.dst=di) (hodj:oj.dst=dj) (hdi:ir n di=true) (hdj:ir n dj=true) (ki:ax P oi ρ h Φ X) (kj:ax P oj ρ h Φ' X)
 (hli:listed.setIfInBounds i true=li) (hlj:listed.setIfInBounds j true=lj)
 (nexti:∀v h',Φ v h'->(keeps i=true->Ext M h h')/\RD P n ops M keeps fuel li (ρ.put di v) h' N X)
 (nextj:∀v h',Φ' v h'->(keeps j=true->Ext M h h')/\RD P n ops M keeps fuel lj (ρ.put dj v) h' N X):RD P n ops M keeps (fuel+1) listed ρ h N X:=by
 subst hli;subst hlj;subst hodi;subst hodj;have hi:=dN hi';have hj:=dN hj';intro B a w hf' ha;refine⟨fun h0=>(by rw[hr] at h0;cases h0),fun k hk=>?_⟩;rw[hr] at hk;have:k=i\/k=j:=by simpa using hk
 rcases this with rfl|rfl
 · unfold wpOp;simp only[hi];rw[cN hf' hwi,if_pos rfl];refine .inl (ki n B a w hf' ha _ _ (fun v h' w' ha' hv=>?_) (fun ch h' w' ha' hx=>⟨hf'.nd,h',ha',hx⟩));obtain⟨h1,h2⟩:=nexti v h' hv;exact⟨fun hk=>by rw[ha.heap,ha'.heap];exact h1 hk,h2 B _ w' (hf'.put hdi v) ha'⟩
 · unfold wpOp;simp only[hj];rw[cN hf' hwj,if_pos rfl];refine .inl (kj n B a w hf' ha _ _ (fun v h' w' ha' hv=>?_) (fun ch h' w' ha' hx=>⟨hf'.nd,h',ha',hx⟩));obtain⟨h1,h2⟩:=nextj v h' hv;exact⟨fun hk=>by rw[ha.heap,ha'.heap];exact h1 hk,h2 B _ w' (hf'.put hdj v) ha'⟩
theorem RD.done (hr:Region.ready .any ops listed=[]) (next:N ρ h):RD P n ops M keeps fuel listed ρ h N X:=by
 intro B a w hf' ha;have hq:∃ρ' h',Fits n ρ' a/\At B h' w/\N ρ' h':=⟨ρ,h,hf',ha,next⟩
 cases fuel with
 |zero=>exact⟨hr,hq⟩
 |succ k=>exact⟨fun _=>hq,fun i hi=>by rw[hr] at hi;cases hi⟩
theorem tO {d:Nat}{b:Bool}(hb:ρ.at d=some (.bool b)) (ht:b=true->RD P n ops M keeps fuel listed ((d,.bool true)::ρ) h N X) (hn:b=false->RD P n ops M keeps fuel listed ((d,.bool false)::ρ) h N X):RD P n ops M keeps fuel listed ρ h N X:=by
 have key:∀a,Fits n ρ a->Fits n ((d,.bool b)::ρ) a:=fun a hf=>⟨hf.size,fun j v hv=>by
  rw[Env.iK] at hv;split at hv
  · rename_i e;subst e;cases hv;exact hf.ok d _ hb
  · exact hf.ok j v hv,hf.nd⟩
 cases b with
 |true=>exact fun B a w hf ha=>ht rfl B a w (key a hf) ha
 |false=>exact fun B a w hf ha=>hn rfl B a w (key a hf) ha
end
section
variable {P:Program}{n:Nat}{ops:Array Oper}{i:Nat}{ρ:Env}{h:au}{N:Env->au->Prop}{X:List PanicEntry->au->Prop}{M:Nat->Prop}{keeps:Nat->Bool}{fuel:Nat}{listed:Array Bool}
theorem RW.ou {Φ:Value->au->Prop}(ho:nth ops.toList i=some o) (hw:bL ops ρ o=some true) (hod:o.dst=some d) (hd:Nat.blt d n=true) (k:ax P o ρ h Φ X)
 (next:∀v h',Φ v h'->RW P n ops (i+1) ((d,v)::ρ) h' N X):RW P n ops i ρ h N X:=RW.op ho hw hod hd k next
theorem RW.bT {Φ:Value->au->Prop}(ho:nth ops.toList i=some o) (hw:bL ops ρ o=some true) (hod:o.dst=none) (k:ax P o ρ h Φ X)
 (next:∀v h',Φ v h'->RW P n ops (i+1) ρ h' N X):RW P n ops i ρ h N X:=RW.op ho hw hod rfl k next
theorem RW.an (ho:nth ops.toList i=some o) (hw:bL ops ρ o=some true) (hod:o.dst=some d) (hd:Nat.blt d n=true) (k:ai P o ρ h v)
 (next:RW P n ops (i+1) ((d,v)::ρ) h N X):RW P n ops i ρ h N X:=IN ho hw hod hd k next
theorem RW.bD (ho:nth ops.toList i=some o) (hw:bL ops ρ o=some false) (hod:o.dst=some d) (hd:Nat.blt d n=true)
 (next:RW P n ops (i+1) ((d,undef)::ρ) h N X):RW P n ops i ρ h N X:=IM ho hw hod hd next
theorem RD.I6 (i:Nat) (ho:nth ops.toList i=some o) (hs:Region.noSelect ops=true) (hf:sG ops keeps listed i=true) (hr:(Region.ready .any ops listed).contains i=true)
 (hw:bL ops ρ o=some true) (hod:o.dst=some d) (hd:Nat.blt d n=true) (k:∀h',Ext M h h'->ai P o ρ h' v) (hl:listed.setIfInBounds i true=listed')
 (next:RD P n ops M keeps fuel listed' ((d,v)::ρ) h N X):RD P n ops M keeps (fuel+1) listed ρ h N X:=RD.take i ho hs hf hr hw hod hd k hl next
theorem RD.bD (i:Nat) (ho:nth ops.toList i=some o) (hs:Region.noSelect ops=true) (hf:sG ops keeps listed i=true) (hr:(Region.ready .any ops listed).contains i=true)
 (hw:bL ops ρ o=some false) (hod:o.dst=some d) (hd:Nat.blt d n=true) (hl:listed.setIfInBounds i true=listed')
 (next:RD P n ops M keeps fuel listed' ((d,undef)::ρ) h N X):RD P n ops M keeps (fuel+1) listed ρ h N X:=IP i ho hs hf hr hw hod hd hl next
theorem RD.NX (i:Nat){Φ:Value->au->Prop}(ho:nth ops.toList i=some o) (hr:Region.ready .any ops listed=[i])
 (hw:bL ops ρ o=some true) (hod:o.dst=some d) (hd:Nat.blt d n=true) (k:ax P o ρ h Φ X) (hl:listed.setIfInBounds i true=listed')
 (next:∀v h',Φ v h'->(keeps i=true->Ext M h h')/\RD P n ops M keeps fuel listed' ((d,v)::ρ) h' N X):RD P n ops M keeps (fuel+1) listed ρ h N X:=RD.one i ho hr hw hod hd k hl next
theorem RD.NY (i:Nat){Φ:Value->au->Prop}(ho:nth ops.toList i=some o) (hr:Region.ready .any ops listed=[i])
 (hw:bL ops ρ o=some true) (hod:o.dst=none) (k:ax P o ρ h Φ X) (hl:listed.setIfInBounds i true=listed')
 (next:∀v h',Φ v h'->(keeps i=true->Ext M h h')/\RD P n ops M keeps fuel listed' ρ h' N X):RD P n ops M keeps (fuel+1) listed ρ h N X:=RD.one i ho hr hw hod rfl k hl next
theorem RD.E8 (i j:Nat){Φ Φ':Value->au->Prop}{li lj:Array Bool}{di dj:Nat}(hi:nth ops.toList i=some oi) (hj:nth ops.toList j=some oj) (hr:Region.ready .any ops listed=[i,j])
 (hwi:bL ops ρ oi=some true) (hwj:bL ops ρ oj=some true) (hodi:oi.dst=some di) (hodj:oj.dst=some dj) (hdi:Nat.blt di n=true) (hdj:Nat.blt dj n=true) (ki:ax P oi ρ h Φ X) (kj:ax P oj ρ h Φ' X)
 (hli:listed.setIfInBounds i true=li) (hlj:listed.setIfInBounds j true=lj)
 (nexti:∀v h',Φ v h'->(keeps i=true->Ext M h h')/\RD P n ops M keeps fuel li ((di,v)::ρ) h' N X)
 (nextj:∀v h',Φ' v h'->(keeps j=true->Ext M h h')/\RD P n ops M keeps fuel lj ((dj,v)::ρ) h' N X):RD P n ops M keeps (fuel+1) listed ρ h N X :=
 K3 i j hi hj hr hwi hwj hodi hodj hdi hdj ki kj hli hlj nexti nextj
theorem RW.b7 {b':Bool}(hb:ρ.at d=some (.bool b)) (e:b=b') (next:RW P n ops i ((d,.bool b')::ρ) h N X):RW P n ops i ρ h N X:=by
 subst e;refine bI hb (fun e=>?_) (fun e=>?_)<;>(subst e;exact next)
theorem RD.b7 {b':Bool}(hb:ρ.at d=some (.bool b)) (e:b=b') (next:RD P n ops M keeps fuel listed ((d,.bool b')::ρ) h N X):RD P n ops M keeps fuel listed ρ h N X:=by
 subst e;refine tO hb (fun e=>?_) (fun e=>?_)<;>(subst e;exact next)
end
end
end Go.Lw
