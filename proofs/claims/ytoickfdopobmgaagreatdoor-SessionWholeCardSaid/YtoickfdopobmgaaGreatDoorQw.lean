/- What the proof of the statement leans on (part 23). -/
import Derived.Lib.LaidTab
import Derived.Test.YtoickfdopobmgaaGreatDoorQv

namespace Go.Proofs.YtoickfdopobmgaaGreatDoor
open Go.Proofs.Tryz
open Go Go.Lw Go.ChangeShapes Go.WideShapes Go.ChangeAt Go.RowKit
set_option maxRecDepth 20000
theorem KC {W:World}{g t:Nat}{cs:Array Value}{fuel:Nat}{pl:List MemPlace}{sp:Nat->Bool}{held:Bool}{enc:TypeId×Value->Unit}(hg:Tryz.prog.globalNamed "internal/strconv.uint64pow10" =some g) (ht:(Tryz.prog.globals[g]?).map (·.type)=some t) (hv:W.var? Tryz.prog "internal/strconv.uint64pow10" =some cs)
    (hd:DataW.trod enc Tryz.prog W 0 sp held fuel t cs.toList=some (Rows.laid_internal_strconv_uint64pow10,pl)):rM W.heap:=by
  have gT:Tryz.prog.globalNamed "internal/strconv.uint64pow10" =some 2:=by kernel_rfl
  have tT:(Tryz.prog.globals[2]?).map (·.type)=some 236:=by kernel_rfl
  obtain rfl:=Option.some.inj (gT.symm.trans hg);obtain rfl:=Option.some.inj (tT.symm.trans ht);unfold rM;rw[<-BL,hv];have hd2:DataW.trod enc Tryz.prog W 0 sp held fuel 236 cs.toList=some (Lib.tabData .u64 Lib.pow10Tab,pl):=hd;rw[<-Lib.cells_of_tab underlying236 underlying122 (by kernel_rfl) (by kernel_rfl) hd2]
end Go.Proofs.YtoickfdopobmgaaGreatDoor
namespace Go.Proofs.YtoickfdopobmgaaGreatDoor
open Go
section
variable {of:List Nat}{t:Int}{d:bG}{ss:List aZ}{tab reps:List UInt8}
def Ki (d e:bG) (a b:Int):Prop:=∀w,d.fM a w=e.fM b w
inductive EZ (d e:bG):List Nat->List Nat->Prop
  |nil:EZ d e [] []
  |cons {x y:Nat}{o p:List Nat}:x<d.next.length->y<e.next.length->Ki d e x y->EZ d e o p->EZ d e (x::o) (y::p)
theorem Cu {live:List Bool}{cls:List Int}:of <+: (cP live cls of t).1:=by
  unfold cP;split
  · exact List.prefix_refl _
  · split
    · exact List.prefix_refl _
    · exact List.prefix_append _ _
theorem qc {live:List Bool}{cls:List Int}:∀(r:List Int) (of:List Nat) (row:List Int),of <+: (fO live cls r of row).1
  | [],of,row=>List.prefix_refl _
  |t::r,of,row=>by
    rw[fO];exact Cu.trans (qc r _ _)
theorem MI (hd:d.Ok) (k:Nat):∀t∈d.row k,t<(d.next.length:Int):=fun t ht=>by
  obtain⟨c,rfl⟩:=Iy ht;exact(bG.qH hd c).2
def qy (d:bG) (of:List Nat) (t y:Int):Prop:=((∀w,d.fM t w= -1)/\y= -1)\/((∃w,0<=d.fM t w)/\∃(i x:Nat),y=(i:Int)/\of[i]? =some x/\Alike d t x)
theorem qy.mono {of':List Nat}{y:Int}(k:qy d of t y) (h:of <+: of'):qy d of' t y:=by
  rcases k with k|⟨k,i,x,e,hi,ha⟩
  · exact .inl k
  · obtain⟨l,rfl⟩:=h;exact .inr ⟨k,i,x,e,by rw[List.getElem?_append_left (List.getElem?_eq_some_iff.1 hi).1];exact hi,ha⟩
def PF (d:bG) (of:List Nat):Prop:=∀(i j x y:Nat),of[i]? =some x->of[j]? =some y->Alike d x y->i=j
structure PA (d:bG) (of:List Nat):Prop where
  ok:Dn d.next.length of
  apart:PF d of
theorem Cs (hd:d.Ok) (k:PA d of) (ht:t<d.next.length) :
    PA d (cP (bg d) (dS d (bg d)) of t).1/\qy d (cP (bg d) (dS d (bg d)) of t).1 t (cP (bg d) (dS d (bg d)) of t).2:=by
  have hdead:=ke hd ht;have hok:=vN (live:=bg d) (cls:=dS d (bg d)) k.ok ht
  revert hok
  unfold cP;split
  · rename_i h;exact fun _=>⟨k,.inl ⟨hdead.1 h,rfl⟩⟩
  · rename_i h
    have halive:∃w,0<=d.fM t w:=by
      by_cases q:∃w,0<=d.fM t w
      · exact q
      · refine absurd (hdead.2 fun w=>?_) h;have h1:=Fl hd t w;have h2:¬0<=d.fM t w:=fun z=>q ⟨w,z⟩
        omega
    obtain⟨n,rfl⟩:=Int.eq_ofNat_of_zero_le (show 0<=t by omega);simp only[Int.toNat_natCast];split
    · rename_i i hi;intro _;obtain⟨_,x,hx,he⟩:=wK of 0 i _ hi;have hxl:=k.ok.lt x (List.mem_of_getElem? hx);exact⟨k,.inr ⟨halive,i,x,rfl,by simpa using hx,(ot hd (by omega) hxl).1 he⟩⟩
    · rename_i hi;intro hok;have hne:=qo of 0 _ hi;refine⟨⟨hok,fun i j x y hx hy ha=>?_⟩,.inr ⟨halive,of.length,n,rfl,by simp,fun w=>rfl⟩⟩
      have hcase:∀(i x:Nat),(of++[n])[i]? =some x->(i<of.length/\of[i]? =some x)\/(i=of.length/\x=n):=fun i x hx=>by
        rcases Nat.lt_or_ge i of.length with hl|hl
        · rw[List.getElem?_append_left hl] at hx;exact .inl ⟨hl,hx⟩
        · have:=(List.getElem?_eq_some_iff.1 hx).1;simp at this;have hil:i=of.length:=by omega
          subst hil;simp only[List.getElem?_concat_length,Option.some.injEq] at hx;exact .inr ⟨rfl,hx.symm⟩
      rcases hcase i x hx with ⟨h1,h2⟩|⟨h1,h2⟩<;>rcases hcase j y hy with ⟨h3,h4⟩|⟨h3,h4⟩
      · exact k.apart i j x y h2 h4 ha
      · subst h4;have hxm:=List.mem_of_getElem? h2;exact absurd ((ot hd (by omega) (k.ok.lt x hxm)).2 fun w=>(ha w).symm) (hne x hxm)
      · subst h2;have hym:=List.mem_of_getElem? h4;exact absurd ((ot hd (by omega) (k.ok.lt y hym)).2 ha) (hne y hym)
      · omega
theorem vO {d:bG}(hd:d.Ok):∀(r:List Int) (of:List Nat) (row:List Int),PA d of->(∀t∈r,t<(d.next.length:Int)) ->
    PA d (fO (bg d) (dS d (bg d)) r of row).1/\∃ys,(fO (bg d) (dS d (bg d)) r of row).2=row++ys/\ys.length=r.length/\∀(j:Nat) (t y:Int),r[j]? =some t->ys[j]? =some y->qy d (fO (bg d) (dS d (bg d)) r of row).1 t y
  | [],of,row,k,_=>⟨k,[],by simp[fO],rfl,fun j t y h=>by simp at h⟩
  |t::r,of,row,k,h=>by
    obtain⟨h1,h2⟩:=Cs hd k (h t (by simp));obtain⟨k1,ys,k3,k4,k5⟩:=vO hd r (cP (bg d) (dS d (bg d)) of t).1 (row++[(cP (bg d) (dS d (bg d)) of t).2]) h1 (fun u hu=>h u (by simp[hu]));rw[fO];refine⟨k1,(cP (bg d) (dS d (bg d)) of t).2::ys,by rw[k3];simp,by simp[k4],fun j u y hu hy=>?_⟩;cases j with
    |zero =>
      simp only[List.getElem?_cons_zero,Option.some.injEq] at hu hy;subst hu;subst hy;exact h2.mono (qc _ _ _)
    |succ j=>exact k5 j u y (by simpa using hu) (by simpa using hy)
structure xM (d:bG) (of:List Nat) (m:bG):Prop where
  rep:PA d of
  first:of[0]? =some 0
  rlen:m.rule.length=m.next.length
  row:∀(k:Nat) (r:Row) (x:Nat),m.next[k]? =some r->of[k]? =some x->∀(c:UInt8) (y:Int),r.v[c.toNat]? =some y->qy d of (d.to x c) y
  rule:∀(k:Nat) (y:Int) (x:Nat),m.rule[k]? =some y->of[k]? =some x->y=d.ru x
theorem Cv {d:bG}(hd:d.Ok):∀(n i:Nat) (of:List Nat) (next:List Row) (rule:List Int),xM d of ⟨next,rule⟩->next.length=i->i<=of.length->n+i=d.next.length+1 ->
    ∃of',xM d of' (Cw d (bg d) (dS d (bg d)) n i of next rule)/\of'.length=(Cw d (bg d) (dS d (bg d)) n i of next rule).next.length
  | 0,i,of,next,rule,h,hi,hio,hn=>by have:=h.rep.ok.len;omega
  |n+1,i,of,next,rule,h,hi,hio,hn=>by
    rw[Cw];split
    · rename_i hnone;have:=List.getElem?_eq_none_iff.1 hnone;exact⟨of,h,by show of.length=next.length;omega⟩
    · rename_i x hx;have hxl:=h.rep.ok.lt x (List.mem_of_getElem? hx);obtain⟨k1,ys,k3,k4,k5⟩:=vO hd (d.row x) of [] h.rep (MI hd x);have hpre:=qc (live:=bg d) (cls:=dS d (bg d)) (d.row x) of [];rw[Ax hxl] at k4;have hol:=(List.getElem?_eq_some_iff.1 hx).1;generalize fO (bg d) (dS d (bg d)) (d.row x) of []=q at *
      have hb:∀(j y:Nat),j<of.length->q.1[j]? =some y->of[j]? =some y:=fun j y hj hy=>by
        obtain⟨t,ht⟩:=hpre;rw[<-ht,List.getElem?_append_left hj] at hy;exact hy
      have hf:∀(j y:Nat),of[j]? =some y->q.1[j]? =some y:=fun j y hy=>by
        obtain⟨t,ht⟩:=hpre;rw[<-ht,List.getElem?_append_left (List.getElem?_eq_some_iff.1 hy).1];exact hy
      have hrl:rule.length=next.length:=h.rlen
      have hlen:=hpre.length_le;refine Cv hd n (i+1) _ _ _ ⟨k1,hf _ _ h.first,by simp[hrl],fun k r z hr hz c y hy=>?_,fun k y z hy hz=>?_⟩ (by simp[hi]) (by omega) (by omega)
      · rcases Nat.lt_or_ge k next.length with hk|hk
        · rw[List.getElem?_append_left hk] at hr;exact(h.row k r z hr (hb k z (by omega) hz) c y hy).mono hpre
        · have hkn:k=next.length:=by
            have:=(List.getElem?_eq_some_iff.1 hr).1;simp at this;omega
          subst hkn;simp only[List.getElem?_concat_length,Option.some.injEq] at hr;subst hr;have hzx:=hb _ z (by omega) hz;rw[hi,hx] at hzx;cases hzx;rw[k3,List.nil_append,uA k4] at hy;exact k5 c.toNat _ y (qO hxl c) hy
      · rcases Nat.lt_or_ge k rule.length with hk|hk
        · rw[List.getElem?_append_left hk] at hy;exact h.rule k y z hy (hb k z (by omega) hz)
        · have hkn:k=rule.length:=by
            have:=(List.getElem?_eq_some_iff.1 hy).1;simp at this;omega
          subst hkn;simp only[List.getElem?_concat_length,Option.some.injEq] at hy;subst hy;have hzx:=hb _ z (by omega) hz;rw[hrl,hi,hx] at hzx;cases hzx;rfl
theorem GO (hd:d.Ok) (hn:0<d.next.length):∃of,xM d of (mO d)/\of.length=(mO d).next.length:=by
  unfold mO;rw[if_neg (by omega)];refine Cv hd _ 0 [0] [] [] ⟨⟨⟨by simp,fun x hx=>by simp at hx;omega⟩,fun i j x y hx hy _=>?_⟩,rfl,rfl,fun k r x hr=>by simp at hr,fun k y x hy=>by simp at hy⟩ rfl (by simp) (by omega);have h1:=(List.getElem?_eq_some_iff.1 hx).1;have h2:=(List.getElem?_eq_some_iff.1 hy).1;simp at h1 h2;omega
theorem xM.to {d m:bG}{of:List Nat}(k:xM d of m) (hl:of.length=m.next.length){s x:Nat}(hx:of[s]? =some x) (c:UInt8):qy d of (d.to x c) (m.to s c):=by
  have hs:=(List.getElem?_eq_some_iff.1 hx).1;have hr:m.next[s]? =some (m.next[s]'(by omega)):=List.getElem?_eq_getElem _
  obtain⟨y,hy,he,_⟩:=(m.next[s]'(by omega)).at c;unfold bG.to;rw[hr];simp only;rw[he];exact k.row s _ x hr hx c y hy
theorem xM.ru {d m:bG}{of:List Nat}(k:xM d of m) (hl:of.length=m.next.length){s x:Nat}(hx:of[s]? =some x):m.ru s=d.ru x:=by
  have hs:=(List.getElem?_eq_some_iff.1 hx).1;have hlt:s<m.rule.length:=by rw[k.rlen];omega
  have hr:m.rule[s]? =some (m.rule[s]'hlt):=List.getElem?_eq_getElem _;have:=k.rule s _ x hr hx;unfold bG.ru at this ⊢;rw[List.getD_eq_getElem?_getD,hr];exact this
theorem xM.fM {d m:bG}{of:List Nat}(k:xM d of m) (hl:of.length=m.next.length):∀(w:By) (s x:Nat),of[s]? =some x->m.fM (s:Int) w=d.fM (x:Int) w
  | [],s,x,hx=>by rw[dJ,dJ,k.ru hl hx]
  |c::w,s,x,hx=>by
    rw[dY,dY]
    rcases k.to hl hx c with ⟨h1,h2⟩|⟨_,i,y,h2,h3,h4⟩
    · rw[h2,lN m w (by decide),h1]
    · rw[h2,k.fM hl w i y h3,h4]
theorem xM.R7 {m:bG}(hd:d.Ok) (k:xM d of m) (hl:of.length=m.next.length):m.Ok:=by
  refine⟨k.rlen,by have:=k.rep.ok.len;have:=hd.size;omega,fun r hr x hx=>?_,fun x hx=>?_⟩
  · obtain⟨i,hi⟩:=List.getElem?_of_mem hr;obtain⟨j,hj⟩:=List.getElem?_of_mem hx;have hil:=(List.getElem?_eq_some_iff.1 hi).1;have hjl:=(List.getElem?_eq_some_iff.1 hj).1;rw[r.len] at hjl;have hc:(UInt8.ofNat j).toNat=j:=by simp;omega
    obtain⟨y,hy⟩:∃y,of[i]? =some y:=⟨_,List.getElem?_eq_getElem (by omega)⟩
    rcases k.row i r y hi hy (UInt8.ofNat j) x (by rw[hc];exact hj) with ⟨_,rfl⟩|⟨_,a,z,rfl,h3,_⟩
    · omega
    · have:=(List.getElem?_eq_some_iff.1 h3).1;omega
  · obtain⟨i,hi⟩:=List.getElem?_of_mem hx;have hil:=(List.getElem?_eq_some_iff.1 hi).1;have:=k.rlen;obtain⟨y,hy⟩:∃y,of[i]? =some y:=⟨_,List.getElem?_eq_getElem (by omega)⟩
    rw[k.rule i x y hi hy];unfold bG.ru;rw[List.getD_eq_getElem?_getD];cases h:d.rule[y]? with
    |none=>show -1<=(-1:Int)/\(-1:Int)<=1000000;omega
    |some v=>exact hd.ru v (List.mem_of_getElem? h)
def Trim (m:bG):Prop:=∀(s:Nat) (c:UInt8),s<m.next.length->0<=m.to s c->∃w,0<=m.fM (m.to s c) w
theorem zi (hd:d.Ok) (hn:0<d.next.length):(mO d).Ok/\0<(mO d).next.length/\(mO d).next.length<=d.next.length/\Ki (mO d) d 0 0/\Trim (mO d):=by
  obtain⟨of,k,hl⟩:=GO hd hn;have h0:=(List.getElem?_eq_some_iff.1 k.first).1;refine⟨k.R7 hd hl,by omega,by have:=k.rep.ok.len;omega,fun w=>k.fM hl w 0 0 k.first,fun s c hs h=>?_⟩;obtain⟨x,hx⟩:∃x,of[s]? =some x:=⟨_,List.getElem?_eq_getElem (by omega)⟩
  rcases k.to hl hx c with ⟨h1,h2⟩|⟨⟨w,hw⟩,i,y,h2,h3,h4⟩
  · rw[h2] at h;omega
  · exact⟨w,by rw[h2,k.fM hl w i y h3,<-h4];exact hw⟩
theorem rD (d:bG):∀(l:By) (s k:Nat) (b:Int×Int),(∀w,d.fM (s:Int) w= -1)->(aK d l s k b).1=b.1/\(aK d l s k b).2.1=b.2/\(k:Int)<=(aK d l s k b).2.2
  | [],s,k,b,h=>by
    have h0:=h [];rw[dJ] at h0;rw[aK,if_neg (by omega)];exact⟨rfl,rfl,Int.le_refl _⟩
  |c::l,s,k,b,h=>by
    have h0:=h [];rw[dJ] at h0;rw[aK,if_neg (by omega:¬0<=d.ru s),if_neg (by omega:¬0<=d.ru s)];split
    · rename_i hp;have:=rD d l (d.to s c).toNat (k+1) b (fun w=>by rw[Int.toNat_of_nonneg hp,<-dY];exact h (c::w));exact⟨this.1,this.2.1,by have:=this.2.2;omega⟩
    · exact⟨rfl,rfl,Int.le_refl _⟩
theorem rC {d m:bG}(hd:d.Ok) (hm:m.Ok) (ht:Trim m):∀(l:By) (s t k:Nat) (b:Int×Int),s<d.next.length->t<m.next.length->Ki d m s t ->
    (aK d l s k b).1=(aK m l t k b).1/\(aK d l s k b).2.1=(aK m l t k b).2.1/\(aK m l t k b).2.2<=(aK d l s k b).2.2
  | [],s,t,k,b,hs,htl,h=>by
    have h0:=h [];rw[dJ,dJ] at h0;rw[aK,aK,h0];exact⟨rfl,rfl,Int.le_refl _⟩
  |c::l,s,t,k,b,hs,htl,h=>by
    have h0:=h [];rw[dJ,dJ] at h0;have hl:Ki d m (d.to s c) (m.to t c):=fun w=>by rw[<-dY,<-dY];exact h _
    have h1:=bG.qH hd (s:=s) c;have h2:=bG.qH hm (s:=t) c;rw[aK,aK,h0]
    by_cases hmt:0<=m.to t c
    · obtain⟨w,hw⟩:=ht t c htl hmt
      have hdt:0<=d.to s c:=by
        by_cases e:d.to s c<0
        · rw[<-hl w,lN d w e] at hw;omega
        · omega
      rw[if_pos hmt,if_pos hdt];exact rC hd hm ht l _ _ _ _ (by omega) (by omega) (fun w=>by rw[Int.toNat_of_nonneg hmt,Int.toNat_of_nonneg hdt];exact hl w)
    · rw[if_neg hmt]
      by_cases hdt:0<=d.to s c
      · rw[if_pos hdt];have hdd:=rD d l (d.to s c).toNat (k+1) (if 0<=m.ru t then ((k:Int),m.ru t) else b) (fun w=>by rw[Int.toNat_of_nonneg hdt,hl w];exact lN m w (by omega));obtain⟨d1,d2,d3⟩:=hdd;rw[d1,d2];generalize (aK d l (d.to s c).toNat (k+1) (if 0<=m.ru t then ((k:Int),m.ru t) else b)).2.2=z at *;split
        · exact⟨rfl,rfl,by show (k:Int)<=_;omega⟩
        · exact⟨rfl,rfl,by show (k:Int)<=_;omega⟩
      · rw[if_neg hdt];exact⟨rfl,rfl,Int.le_refl _⟩
theorem DL {m:bG}(hd:d.Ok) (hm:m.Ok) (ht:Trim m) (hd0:0<d.next.length) (hm0:0<m.next.length) (hl:Ki d m 0 0) (s:By) (a:Int) :
    (dc d s a).1=(dc m s a).1/\(dc d s a).2.1=(dc m s a).2.1/\(dc m s a).2.2<=(dc d s a).2.2:=by
  unfold dc
  by_cases ha:a<0\/(s.length:Int)<a
  · rw[if_pos (.inr ha),if_pos (.inr ha)];exact⟨rfl,rfl,Int.le_refl _⟩
  · rw[if_neg (by omega),if_neg (by omega)];exact rC hd hm ht (s.drop a.toNat) 0 0 0 (0,-1) hd0 hm0 hl
theorem vH {α:Type}[DecidableEq α]:∀(l m:List α),l.Nodup->(∀x∈l,x∈m)->l.length<=m.length
  | [],m,_,_=>Nat.zero_le _
  |a::l,m,h,hs=>by
    rw[List.nodup_cons] at h;have ha:=hs a (by simp);have:=vH l (m.erase a) h.2 (fun x hx=>(List.mem_erase_of_ne (fun e=>h.1 (by rw[<-e];exact hx))).2 (hs x (by simp[hx])));have h2:=List.length_erase_of_mem ha;have h3:=List.length_pos_of_mem ha;simp only[List.length_cons];omega
def Lr (ss:List aZ) (S:List (List Nat)):Prop:=∀T∈S,∀c:UInt8,(bV ss c T).length=0\/bV ss c T∈S
theorem Ft {ss:List aZ}{S:List (List Nat)}{cur:List Nat}(hS:Lr ss S) (hc:cur∈S):∀(n b:Nat) (lists:List (List Nat)) (row:List Int),(∀T∈lists,T∈S)->∀T∈(mI ss cur n b lists row).1,T∈S
  | 0,b,lists,row,h=>h
  |n+1,b,lists,row,h=>by
    rw[mI];refine Ft hS hc n (b+1) _ _ fun T hT=>?_
    unfold dB at hT;split at hT
    · exact h T hT
    · rename_i hne;split at hT
      · exact h T hT
      · rcases List.mem_append.1 hT with k|k
        · exact h T k
        · rw[List.mem_singleton.1 k];exact(hS cur hc (UInt8.ofNat b)).resolve_left hne
theorem tO {ss:List aZ}{S:List (List Nat)}(hS:Lr ss S) (hlen:S.length<=2000):∀(n k:Nat) (lists:List (List Nat)) (next:List Row) (rule:List Int),lists.Nodup->(∀T∈lists,T∈S)->k<=lists.length->2002<=n+k->∃d,lu ss n k lists next rule=some d
  | 0,k,lists,next,rule,hn,hin,hk,hf=>by
    have:=vH lists S hn hin;omega
  |n+1,k,lists,next,rule,hn,hin,hk,hf=>by
    rw[lu];split
    · exact⟨_,rfl⟩
    · rename_i cur hcur;have hkl:=(List.getElem?_eq_some_iff.1 hcur).1;obtain⟨h1,h2,_⟩:=sd ss cur 256 0 lists [] hn;have h3:=Ft hS (hin cur (List.mem_of_getElem? hcur)) 256 0 lists [] hin;have h4:=vH _ S h2 h3;have h5:=h1.length_le;rw[if_neg (by omega)];exact tO hS hlen n (k+1) _ _ _ h2 h3 (by omega) (by omega)
theorem C3 {st:Nat}{S:List (List Nat)}(hS:Lr ss S) (hlen:S.length<=2000) (h0:(bR ss st).length≠0) (hst:bR ss st∈S):∃d,gC ss st= .inr d:=by
  obtain⟨d,hd⟩:=tO hS hlen 2002 0 [bR ss st] [] [] (by simp) (fun T hT=>by rw[List.mem_singleton.1 hT];exact hst) (Nat.zero_le _) (Nat.le_refl _);refine⟨d,?_⟩;unfold gC;rw[if_neg h0,hd]
theorem rU {ss:List aZ}{c r:UInt8}(h:∀x∈ss,x.set.testBit c.toNat=x.set.testBit r.toNat):∀(l a:List Nat),stepG ss c l a=stepG ss r l a
  | [],a=>rfl
  |j::l,a=>by
    rw[stepG,stepG];cases hx:ss[j]? with
    |none=>exact rU h l a
    |some x =>
      simp only;rw[show jI x c=jI x r by unfold jI;rw[h x (List.mem_of_getElem? hx)]];exact rU h l _
theorem Gi {c r:UInt8}(h:∀x∈ss,x.set.testBit c.toNat=x.set.testBit r.toNat) (T:List Nat):bV ss c T=bV ss r T:=by
  unfold bV;rw[rU h]
def A4:List (List Nat×Nat)->List Nat->Option Nat
  | [],_=>none
  |(T,h)::l,U=>if T=U then some h else A4 l U
theorem wz:∀{l:List (List Nat×Nat)}{U:List Nat}{h:Nat},A4 l U=some h->(U,h)∈l
  | [],U,h,e=>by cases e
  |(T,h')::l,U,h,e=>by
    rw[A4] at e;split at e
    · rename_i k;cases e;subst k;simp
    · exact List.mem_cons_of_mem _ (wz e)
def FQ (ss:List aZ) (H:List (List Nat×Nat)) (T:List Nat) (h:Nat) (r:UInt8):Bool :=
  (bV ss r T).isEmpty ||match A4 H (bV ss r T) with
    |none=>false
    |some h'=>decide (0<=aL ss (bV ss r T)) ||decide ((if 0<=aL ss T then 0 else h)+1<=h')
def qv (ss:List aZ) (H:List (List Nat×Nat)) (reps:List UInt8):Bool:=H.all fun p=>decide (p.2<=2) && reps.all fun r=>FQ ss H p.1 p.2 r
def jy (ss:List aZ) (tab:List UInt8) (reps:List UInt8):Bool:=decide (tab.length=256) && (List.range 256).all fun b=>reps.contains (tab.getD b 0) && ss.all fun x=>x.set.testBit b ==x.set.testBit (tab.getD b 0).toNat
theorem Li (h:jy ss tab reps=true) (c:UInt8):∃r∈reps,∀x∈ss,x.set.testBit c.toNat=x.set.testBit r.toNat:=by
  unfold jy at h;rw[Bool.and_eq_true] at h;have h2:=List.all_eq_true.1 h.2 c.toNat (List.mem_range.2 c.toNat_lt);rw[Bool.and_eq_true] at h2;exact⟨_,by simpa using h2.1,fun x hx=>by simpa using List.all_eq_true.1 h2.2 x hx⟩
theorem C7 {H:List (List Nat×Nat)}(hr:jy ss tab reps=true) (ha:qv ss H reps=true){T:List Nat}{h:Nat}(hT:(T,h)∈H) (c:UInt8) :
    (bV ss c T).length=0\/∃h',(bV ss c T,h')∈H/\h'<=2/\(0<=aL ss (bV ss c T)\/(if 0<=aL ss T then 0 else h)+1<=h'):=by
  obtain⟨r,hrm,hx⟩:=Li hr c;rw[Gi hx];have h1:=List.all_eq_true.1 ha _ hT;rw[Bool.and_eq_true] at h1;have h2:=List.all_eq_true.1 h1.2 r hrm;simp only[FQ,Bool.or_eq_true,List.isEmpty_iff] at h2
  rcases h2 with h2|h2
  · left;rw[h2];rfl
  · right
    cases hh:A4 H (bV ss r T) with
    |none=>rw[hh] at h2;cases h2
    |some h' =>
      rw[hh] at h2;simp only[Bool.or_eq_true,decide_eq_true_eq] at h2;have hm:=wz hh;have h3:=List.all_eq_true.1 ha _ hm;rw[Bool.and_eq_true] at h3;exact⟨h',hm,of_decide_eq_true h3.1,h2⟩
theorem JV {H:List (List Nat×Nat)}(hr:jy ss tab reps=true) (ha:qv ss H reps=true):Lr ss (H.map (·.1)):=fun T hT c=>by
  obtain⟨⟨T',h⟩,hm,rfl⟩:=List.mem_map.1 hT
  rcases C7 hr ha hm c with k|⟨h',k,_⟩
  · exact .inl k
  · exact .inr (List.mem_map.2 ⟨_,k,rfl⟩)
theorem yN {ss:List aZ}{st0:Nat}{L:List (List Nat)}{d:bG}(k:oB ss st0 L d) (hL:L.length=d.next.length){H:List (List Nat×Nat)}{tab reps:List UInt8}(hr:jy ss tab reps=true) (ha:qv ss H reps=true):∀(l:By) (s j:Nat) (b:Int×Int) (T:List Nat) (h:Nat),
    L[s]? =some T->(T,h)∈H->(j:Int)<=(if 0<=aL ss T then (j:Int) else b.1+h)->(aK d l s j b).2.2<=(aK d l s j b).1+2
  | [],s,j,b,T,h,hs,hm,hj=>by
    have h2:=List.all_eq_true.1 ha _ hm;rw[Bool.and_eq_true] at h2;have h3:=of_decide_eq_true h2.1;rw[aK,k.ru hL hs];split
    · show (j:Int)<=j+2;omega
    · rename_i hn;rw[if_neg hn] at hj
      show (j:Int)<=b.1+2
      simp only at h3;omega
  |c::l,s,j,b,T,h,hs,hm,hj=>by
    have h2:=List.all_eq_true.1 ha _ hm;rw[Bool.and_eq_true] at h2;have h3:=of_decide_eq_true h2.1;simp only at h3;rw[aK,k.ru hL hs]
    rcases k.to hL hs c with ⟨h1,e1⟩|⟨h1,i,e1,hi⟩
    · rw[e1,if_neg (by decide)];split
      · show (j:Int)<=j+2;omega
      · rename_i hn;rw[if_neg hn] at hj
        show (j:Int)<=b.1+2
        omega
    · rw[e1,if_pos (by omega),Int.toNat_natCast]
      rcases C7 hr ha hm c with q|⟨h',q1,q2,q3⟩
      · exact absurd q h1
      · refine yN k hL hr ha l i (j+1) _ _ h' hi q1 ?_
        by_cases hacc:0<=aL ss (bV ss c T)
        · rw[if_pos hacc];omega
        · rw[if_neg hacc];have q4:=q3.resolve_left hacc
          by_cases ht:0<=aL ss T
          · rw[if_pos ht] at q4;rw[if_pos ht]
            show ((j+1:Nat):Int)<=(j:Int)+h'
            omega
          · rw[if_neg ht] at q4 hj;rw[if_neg ht];omega
end
end Go.Proofs.YtoickfdopobmgaaGreatDoor
namespace Go.Proofs.YtoickfdopobmgaaGreatDoor
open Go
set_option maxRecDepth 100000
def D0:List By:=[[91,32,92,116,92,114,93,43],[92,110],[91,97,45,122,65,45,90,95,93,91,97,45,122,65,45,90,48,45,57,95,93,42],[91,48,45,57,93,43,40,92,46,91,48,45,57,93,43,41,63,40,91,101,69,93,91,92,43,92,45,93,63,91,48,45,57,93,43,41,63],[47,47,91,94,92,110,93,42],[47,92,42],[34],[91,92,40,92,91,123,93],[91,92,41,92,93,125,93],[91,92,43,92,45,92,42,47,37,60,62,33,61,44,59,58,92,46,93,124,61,61,124,33,61,124,60,61,124,62,61,124,38,38,124,92,124,92,124,124,92,45,62]]
def eC:List aZ:=[⟨2,0,[],0⟩,⟨0,0,[2,0],0⟩,⟨1,4294976000,[1],0⟩,⟨2,0,[],1⟩,⟨1,1024,[3],0⟩,⟨2,0,[],2⟩,⟨0,0,[7,5],0⟩,⟨1,10633823849912963253799171395480977408,[6],0⟩,⟨1,10633823849912963253511222494305976320,[6],0⟩,⟨2,0,[],3⟩,⟨0,0,[11,9],0⟩,⟨1,287948901175001088,[10],0⟩,⟨1,43980465111040,[11],0⟩,⟨0,0,[12,11],0⟩,⟨1,2535301201046754613352112062464,[13],0⟩,⟨0,0,[14,9],0⟩,⟨0,0,[17,15],0⟩,⟨1,287948901175001088,[16],0⟩,⟨1,70368744177664,[17],0⟩,⟨0,0,[18,15],0⟩,⟨0,0,[21,19],0⟩,⟨1,287948901175001088,[20],0⟩,⟨2,0,[],4⟩,⟨0,0,[24,22],0⟩,⟨1,115792089237316195423570985008687907853269984665640564039457584007913129638911,[23],0⟩,⟨1,140737488355328,[23],0⟩,⟨1,140737488355328,[25],0⟩,⟨2,0,[],5⟩,⟨1,4398046511104,[27],0⟩,⟨1,140737488355328,[28],0⟩,⟨2,0,[],6⟩,⟨1,17179869184,[30],0⟩,⟨2,0,[],7⟩,⟨1,10633823968755207061801218131552632832,[32],0⟩,⟨2,0,[],8⟩,⟨1,42535295875020828247204870327187275776,[34],0⟩,⟨2,0,[],9⟩,⟨1,8935418883662151680,[36],0⟩,⟨1,2305843009213693952,[36],0⟩,⟨1,2305843009213693952,[38],0⟩,⟨1,2305843009213693952,[36],0⟩,⟨1,8589934592,[40],0⟩,⟨1,2305843009213693952,[36],0⟩,⟨1,1152921504606846976,[42],0⟩,⟨1,2305843009213693952,[36],0⟩,⟨1,4611686018427387904,[44],0⟩,⟨1,274877906944,[36],0⟩,⟨1,274877906944,[46],0⟩,⟨1,21267647932558653966460912964485513216,[36],0⟩,⟨1,21267647932558653966460912964485513216,[48],0⟩,⟨1,4611686018427387904,[36],0⟩,⟨1,35184372088832,[50],0⟩,⟨0,0,[37,39,41,43,45,47,49,51],0⟩,⟨0,0,[2,4,8,21,26,29,31,33,35,52],0⟩]
theorem QE:eX D0= .inr (eC,53):=rfl
def NL:List (List Nat×Nat):=[([2,4,8,21,26,29,31,33,35,37,39,41,43,45,47,49,51],0),([0,2],0),([3],0),([36,40],0),([30],0),([36],0),([46],1),([32],0),([34],0),([36,50],0),([25,28,36],0),([9,14,18,21],0),([36,42],0),([36,38],0),([36,44],0),([5,7],0),([48],1),([27],0),([22,24],0),([17],1),([11,12],1),([9,14,17],0),([11],2),([9,11],0)]
def Qk:List UInt8:=[0,0,0,0,0,0,0,0,0,9,10,0,0,9,0,0,0,0,0,0,0,0,0,0,0,0,0,0,0,0,0,0,9,33,34,0,0,37,38,0,40,41,42,43,37,45,46,47,48,48,48,48,48,48,48,48,48,48,37,37,60,61,62,0,0,65,65,65,65,69,65,65,65,65,65,65,65,65,65,65,65,65,65,65,65,65,65,65,65,65,65,40,0,41,0,65,0,65,65,65,65,69,65,65,65,65,65,65,65,65,65,65,65,65,65,65,65,65,65,65,65,65,65,40,124,41]++List.replicate 130 0
def L3:List UInt8:=[0,9,10,33,34,37,38,40,41,42,43,45,46,47,48,60,61,62,65,69,124]
def DZ:List By:=[[91,94,34,92,92,92,110,93,43],[92,92,91,110,114,116,34,92,92,48,93],[34],[92,110]]
def Ao:List aZ:=[⟨2,0,[],0⟩,⟨0,0,[2,0],0⟩,⟨1,115792089237316195423570985008687907853269984665635612279300442486796353272831,[1],0⟩,⟨2,0,[],1⟩,⟨1,105144016337090416619545142419783680,[3],0⟩,⟨1,4951760157141521099596496896,[4],0⟩,⟨2,0,[],2⟩,⟨1,17179869184,[6],0⟩,⟨2,0,[],3⟩,⟨1,1024,[8],0⟩,⟨0,0,[2,5,7,9],0⟩]
theorem KP:eX DZ= .inr (Ao,10):=rfl
def ht1:List (List Nat×Nat):=[([2,5,7,9],0),([0,2],0),([8],0),([6],0),([4],1),([3],0)]
def Qj:List UInt8:=[0,0,0,0,0,0,0,0,0,0,10,0,0,0,0,0,0,0,0,0,0,0,0,0,0,0,0,0,0,0,0,0,0,0,34,0,0,0,0,0,0,0,0,0,0,0,0,0,48]++List.replicate 43 0++[92,0,0,0,0,0,0,0,0,0,0,0,0,0,0,0,0,0,48,0,0,0,48,0,48]++List.replicate 139 0
def L2:List UInt8:=[0,10,34,48,92]
def DY:List By:=[[47,92,42],[92,42,47],[91,94,92,42,47,93,43],[91,92,42,47,93]]
def An:List aZ:=[⟨2,0,[],0⟩,⟨1,4398046511104,[0],0⟩,⟨1,140737488355328,[1],0⟩,⟨2,0,[],1⟩,⟨1,140737488355328,[3],0⟩,⟨1,4398046511104,[4],0⟩,⟨2,0,[],2⟩,⟨0,0,[8,6],0⟩,⟨1,115792089237316195423570985008687907853269984665640564039457583862777594773503,[7],0⟩,⟨2,0,[],3⟩,⟨1,145135534866432,[9],0⟩,⟨0,0,[2,5,8,10],0⟩]
theorem QD:eX DY= .inr (An,11):=rfl
def ht2:List (List Nat×Nat):=[([2,5,8,10],0),([6,8],0),([4,9],0),([1,9],0),([3],0),([0],0)]
def Qi:List UInt8:=List.replicate 42 0++[42,0,0,0,0,47]++List.replicate 208 0
def L1:List UInt8:=[0,42,47]
theorem O1:jy eC Qk L3=true:=by decide +kernel
theorem O8:qv eC NL L3=true:=by decide +kernel
theorem OY:A4 NL (bR eC 53)=some 0/\bR eC 53≠[]/\¬0<=aL eC (bR eC 53):=by decide +kernel
theorem O0:jy Ao Qj L2=true:=by decide +kernel
theorem O7:qv Ao ht1 L2=true:=by decide +kernel
theorem OX:A4 ht1 (bR Ao 10)=some 0/\bR Ao 10≠[]/\¬0<=aL Ao (bR Ao 10):=by decide +kernel
theorem OZ:jy An Qi L1=true:=by decide +kernel
theorem O5:qv An ht2 L1=true:=by decide +kernel
theorem OW:A4 ht2 (bR An 11)=some 0/\bR An 11≠[]/\¬0<=aL An (bR An 11):=by decide +kernel
end Go.Proofs.YtoickfdopobmgaaGreatDoor
