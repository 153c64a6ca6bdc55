/- What the proof of the statement leans on (part 22). -/
import Derived.Lib.LaidTab
import Derived.Test.YtmehdcdbeafljaaGreatDoorQu

namespace Go.Proofs.YtmehdcdbeafljaaGreatDoor
open Go.Proofs.Tryz
open Go Go.Lw Go.ChangeShapes Go.WideShapes Go.ChangeAt Go.RowKit
set_option maxRecDepth 20000
theorem GK {W:World}{g t:Nat}{cs:Array Value}{fuel:Nat}{pl:List MemPlace}{sp:Nat->Bool}{held:Bool}{enc:TypeId×Value->Unit}(hg:Tryz.prog.globalNamed "internal/strconv.uint64pow10" =some g) (ht:(Tryz.prog.globals[g]?).map (·.type)=some t) (hv:W.var? Tryz.prog "internal/strconv.uint64pow10" =some cs)
 (hd:DataW.trod enc Tryz.prog W 0 sp held fuel t cs.toList=some (Rows.laid_internal_strconv_uint64pow10,pl)):qG W.heap:=by
 have gT:Tryz.prog.globalNamed "internal/strconv.uint64pow10" =some 4:=by kernel_rfl
 have tT:(Tryz.prog.globals[4]?).map (·.type)=some 264:=by kernel_rfl
 obtain rfl:=Option.some.inj (gT.symm.trans hg);obtain rfl:=Option.some.inj (tT.symm.trans ht);unfold qG;rw[<-yT,hv];have hd2:DataW.trod enc Tryz.prog W 0 sp held fuel 264 cs.toList=some (Lib.tabData .u64 Lib.pow10Tab,pl):=hd;rw[<-Lib.cells_of_tab underlying264 underlying128 (by kernel_rfl) (by kernel_rfl) hd2]
end Go.Proofs.YtmehdcdbeafljaaGreatDoor
namespace Go.Proofs.YtmehdcdbeafljaaGreatDoor
open Go
section
variable {of:List Nat}{t:Int}{d:cn}{ss:List bT}{tab reps:List UInt8}
def Gr (d e:cn) (a b:Int):Prop:=∀w,d.fM a w=e.fM b w
inductive B4 (d e:cn):List Nat->List Nat->Prop
 |nil:B4 d e [] []
 |cons {x y:Nat}{o p:List Nat}:x<d.next.length->y<e.next.length->Gr d e x y->B4 d e o p->B4 d e (x::o) (y::p)
theorem zX {live:List Bool}{cls:List Int}:of <+: (cZ live cls of t).1:=by
 unfold cZ;split
 · exact List.prefix_refl _
 · split
   · exact List.prefix_refl _
   · exact List.prefix_append _ _
theorem om {live:List Bool}{cls:List Int}:∀(r:List Int) (of:List Nat) (row:List Int),of <+: (fN live cls r of row).1
 | [],of,row=>List.prefix_refl _
 |t::r,of,row=>by
  rw[fN];exact zX.trans (om r _ _)
theorem Jc (hd:d.Ok) (k:Nat):∀t∈d.row k,t<(d.next.length:Int):=fun t ht=>by
 obtain⟨c,rfl⟩:=EN ht;exact(cn.oQ hd c).2
def oF (d:cn) (of:List Nat) (t y:Int):Prop:=((∀w,d.fM t w= -1)/\y= -1)\/((∃w,0<=d.fM t w)/\∃(i x:Nat),y=(i:Int)/\of[i]? =some x/\Alike d t x)
theorem oF.mono {of':List Nat}{y:Int}(k:oF d of t y) (h:of <+: of'):oF d of' t y:=by
 rcases k with k|⟨k,i,x,e,hi,ha⟩
 · exact .inl k
 · obtain⟨l,rfl⟩:=h;exact .inr ⟨k,i,x,e,by rw[List.getElem?_append_left (List.getElem?_eq_some_iff.1 hi).1];exact hi,ha⟩
def LK (d:cn) (of:List Nat):Prop:=∀(i j x y:Nat),of[i]? =some x->of[j]? =some y->Alike d x y->i=j
structure LF (d:cn) (of:List Nat):Prop where
 ok:AQ d.next.length of
 apart:LK d of
theorem zW (hd:d.Ok) (k:LF d of) (ht:t<d.next.length) :
 LF d (cZ (bK d) (ef d (bK d)) of t).1/\oF d (cZ (bK d) (ef d (bK d)) of t).1 t (cZ (bK d) (ef d (bK d)) of t).2:=by
 have hdead:=ji hd ht;have hok:=tf (live:=bK d) (cls:=ef d (bK d)) k.ok ht
 revert hok
 unfold cZ;split
 · rename_i h;exact fun _=>⟨k,.inl ⟨hdead.1 h,rfl⟩⟩
 · rename_i h
   have halive:∃w,0<=d.fM t w:=by
    by_cases q:∃w,0<=d.fM t w
    · exact q
    · refine absurd (hdead.2 fun w=>?_) h;have h1:=Cf hd t w;have h2:¬0<=d.fM t w:=fun z=>q ⟨w,z⟩
      omega
   obtain⟨n,rfl⟩:=Int.eq_ofNat_of_zero_le (show 0<=t by omega);simp only[Int.toNat_natCast];split
   · rename_i i hi;intro _;obtain⟨_,x,hx,he⟩:=ue of 0 i _ hi;have hxl:=k.ok.lt x (List.mem_of_getElem? hx);exact⟨k,.inr ⟨halive,i,x,rfl,by simpa using hx,(mH hd (by omega) hxl).1 he⟩⟩
   · rename_i hi;intro hok;have hne:=oz of 0 _ hi;refine⟨⟨hok,fun i j x y hx hy ha=>?_⟩,.inr ⟨halive,of.length,n,rfl,by simp,fun w=>rfl⟩⟩
     have hcase:∀(i x:Nat),(of++[n])[i]? =some x->(i<of.length/\of[i]? =some x)\/(i=of.length/\x=n):=fun i x hx=>by
      rcases Nat.lt_or_ge i of.length with hl|hl
      · rw[List.getElem?_append_left hl] at hx;exact .inl ⟨hl,hx⟩
      · have:=(List.getElem?_eq_some_iff.1 hx).1;simp at this;have hil:i=of.length:=by omega
        subst hil;simp only[List.getElem?_concat_length,Option.some.injEq] at hx;exact .inr ⟨rfl,hx.symm⟩
     rcases hcase i x hx with ⟨h1,h2⟩|⟨h1,h2⟩<;>rcases hcase j y hy with ⟨h3,h4⟩|⟨h3,h4⟩
     · exact k.apart i j x y h2 h4 ha
     · subst h4;have hxm:=List.mem_of_getElem? h2;exact absurd ((mH hd (by omega) (k.ok.lt x hxm)).2 fun w=>(ha w).symm) (hne x hxm)
     · subst h2;have hym:=List.mem_of_getElem? h4;exact absurd ((mH hd (by omega) (k.ok.lt y hym)).2 ha) (hne y hym)
     · omega
theorem tg {d:cn}(hd:d.Ok):∀(r:List Int) (of:List Nat) (row:List Int),LF d of->(∀t∈r,t<(d.next.length:Int)) ->
 LF d (fN (bK d) (ef d (bK d)) r of row).1/\∃ys,(fN (bK d) (ef d (bK d)) r of row).2=row++ys/\ys.length=r.length/\∀(j:Nat) (t y:Int),r[j]? =some t->ys[j]? =some y->oF d (fN (bK d) (ef d (bK d)) r of row).1 t y
 | [],of,row,k,_=>⟨k,[],by simp[fN],rfl,fun j t y h=>by simp at h⟩
 |t::r,of,row,k,h=>by
  obtain⟨h1,h2⟩:=zW hd k (h t (by simp));obtain⟨k1,ys,k3,k4,k5⟩:=tg hd r (cZ (bK d) (ef d (bK d)) of t).1 (row++[(cZ (bK d) (ef d (bK d)) of t).2]) h1 (fun u hu=>h u (by simp[hu]));rw[fN];refine⟨k1,(cZ (bK d) (ef d (bK d)) of t).2::ys,by rw[k3];simp,by simp[k4],fun j u y hu hy=>?_⟩;cases j with
  |zero =>
   simp only[List.getElem?_cons_zero,Option.some.injEq] at hu hy;subst hu;subst hy;exact h2.mono (om _ _ _)
  |succ j=>exact k5 j u y (by simpa using hu) (by simpa using hy)
structure uS (d:cn) (of:List Nat) (m:cn):Prop where
 rep:LF d of
 first:of[0]? =some 0
 rlen:m.rule.length=m.next.length
 row:∀(k:Nat) (r:Row) (x:Nat),m.next[k]? =some r->of[k]? =some x->∀(c:UInt8) (y:Int),r.v[c.toNat]? =some y->oF d of (d.to x c) y
 rule:∀(k:Nat) (y:Int) (x:Nat),m.rule[k]? =some y->of[k]? =some x->y=d.ru x
theorem zY {d:cn}(hd:d.Ok):∀(n i:Nat) (of:List Nat) (next:List Row) (rule:List Int),uS d of ⟨next,rule⟩->next.length=i->i<=of.length->n+i=d.next.length+1 ->
 ∃of',uS d of' (zZ d (bK d) (ef d (bK d)) n i of next rule)/\of'.length=(zZ d (bK d) (ef d (bK d)) n i of next rule).next.length
 | 0,i,of,next,rule,h,hi,hio,hn=>by have:=h.rep.ok.len;omega
 |n+1,i,of,next,rule,h,hi,hio,hn=>by
  rw[zZ];split
  · rename_i hnone;have:=List.getElem?_eq_none_iff.1 hnone;exact⟨of,h,by show of.length=next.length;omega⟩
  · rename_i x hx;have hxl:=h.rep.ok.lt x (List.mem_of_getElem? hx);obtain⟨k1,ys,k3,k4,k5⟩:=tg hd (d.row x) of [] h.rep (Jc hd x);have hpre:=om (live:=bK d) (cls:=ef d (bK d)) (d.row x) of [];rw[xh hxl] at k4;have hol:=(List.getElem?_eq_some_iff.1 hx).1;generalize fN (bK d) (ef d (bK d)) (d.row x) of []=q at *
    have hb:∀(j y:Nat),j<of.length->q.1[j]? =some y->of[j]? =some y:=fun j y hj hy=>by
     obtain⟨t,ht⟩:=hpre;rw[<-ht,List.getElem?_append_left hj] at hy;exact hy
    have hf:∀(j y:Nat),of[j]? =some y->q.1[j]? =some y:=fun j y hy=>by
     obtain⟨t,ht⟩:=hpre;rw[<-ht,List.getElem?_append_left (List.getElem?_eq_some_iff.1 hy).1];exact hy
    have hrl:rule.length=next.length:=h.rlen
    have hlen:=hpre.length_le;refine zY hd n (i+1) _ _ _ ⟨k1,hf _ _ h.first,by simp[hrl],fun k r z hr hz c y hy=>?_,fun k y z hy hz=>?_⟩ (by simp[hi]) (by omega) (by omega)
    · rcases Nat.lt_or_ge k next.length with hk|hk
      · rw[List.getElem?_append_left hk] at hr;exact(h.row k r z hr (hb k z (by omega) hz) c y hy).mono hpre
      · have hkn:k=next.length:=by
         have:=(List.getElem?_eq_some_iff.1 hr).1;simp at this;omega
        subst hkn;simp only[List.getElem?_concat_length,Option.some.injEq] at hr;subst hr;have hzx:=hb _ z (by omega) hz;rw[hi,hx] at hzx;cases hzx;rw[k3,List.nil_append,sd k4] at hy;exact k5 c.toNat _ y (oX hxl c) hy
    · rcases Nat.lt_or_ge k rule.length with hk|hk
      · rw[List.getElem?_append_left hk] at hy;exact h.rule k y z hy (hb k z (by omega) hz)
      · have hkn:k=rule.length:=by
         have:=(List.getElem?_eq_some_iff.1 hy).1;simp at this;omega
        subst hkn;simp only[List.getElem?_concat_length,Option.some.injEq] at hy;subst hy;have hzx:=hb _ z (by omega) hz;rw[hrl,hi,hx] at hzx;cases hzx;rfl
theorem Dt (hd:d.Ok) (hn:0<d.next.length):∃of,uS d of (kR d)/\of.length=(kR d).next.length:=by
 unfold kR;rw[if_neg (by omega)];refine zY hd _ 0 [0] [] [] ⟨⟨⟨by simp,fun x hx=>by simp at hx;omega⟩,fun i j x y hx hy _=>?_⟩,rfl,rfl,fun k r x hr=>by simp at hr,fun k y x hy=>by simp at hy⟩ rfl (by simp) (by omega);have h1:=(List.getElem?_eq_some_iff.1 hx).1;have h2:=(List.getElem?_eq_some_iff.1 hy).1;simp at h1 h2;omega
theorem uS.to {d m:cn}{of:List Nat}(k:uS d of m) (hl:of.length=m.next.length){s x:Nat}(hx:of[s]? =some x) (c:UInt8):oF d of (d.to x c) (m.to s c):=by
 have hs:=(List.getElem?_eq_some_iff.1 hx).1;have hr:m.next[s]? =some (m.next[s]'(by omega)):=List.getElem?_eq_getElem _
 obtain⟨y,hy,he,_⟩:=(m.next[s]'(by omega)).at c;unfold cn.to;rw[hr];simp only;rw[he];exact k.row s _ x hr hx c y hy
theorem uS.ru {d m:cn}{of:List Nat}(k:uS d of m) (hl:of.length=m.next.length){s x:Nat}(hx:of[s]? =some x):m.ru s=d.ru x:=by
 have hs:=(List.getElem?_eq_some_iff.1 hx).1;have hlt:s<m.rule.length:=by rw[k.rlen];omega
 have hr:m.rule[s]? =some (m.rule[s]'hlt):=List.getElem?_eq_getElem _;have:=k.rule s _ x hr hx;unfold cn.ru at this ⊢;rw[List.getD_eq_getElem?_getD,hr];exact this
theorem uS.fM {d m:cn}{of:List Nat}(k:uS d of m) (hl:of.length=m.next.length):∀(w:By) (s x:Nat),of[s]? =some x->m.fM (s:Int) w=d.fM (x:Int) w
 | [],s,x,hx=>by rw[dS,dS,k.ru hl hx]
 |c::w,s,x,hx=>by
  rw[eC,eC]
  rcases k.to hl hx c with ⟨h1,h2⟩|⟨_,i,y,h2,h3,h4⟩
  · rw[h2,kf m w (by decide),h1]
  · rw[h2,k.fM hl w i y h3,h4]
theorem uS.NF {m:cn}(hd:d.Ok) (k:uS d of m) (hl:of.length=m.next.length):m.Ok:=by
 refine⟨k.rlen,by have:=k.rep.ok.len;have:=hd.size;omega,fun r hr x hx=>?_,fun x hx=>?_⟩
 · obtain⟨i,hi⟩:=List.getElem?_of_mem hr;obtain⟨j,hj⟩:=List.getElem?_of_mem hx;have hil:=(List.getElem?_eq_some_iff.1 hi).1;have hjl:=(List.getElem?_eq_some_iff.1 hj).1;rw[r.len] at hjl;have hc:(UInt8.ofNat j).toNat=j:=by simp;omega
   obtain⟨y,hy⟩:∃y,of[i]? =some y:=⟨_,List.getElem?_eq_getElem (by omega)⟩
   rcases k.row i r y hi hy (UInt8.ofNat j) x (by rw[hc];exact hj) with ⟨_,rfl⟩|⟨_,a,z,rfl,h3,_⟩
   · omega
   · have:=(List.getElem?_eq_some_iff.1 h3).1;omega
 · obtain⟨i,hi⟩:=List.getElem?_of_mem hx;have hil:=(List.getElem?_eq_some_iff.1 hi).1;have:=k.rlen;obtain⟨y,hy⟩:∃y,of[i]? =some y:=⟨_,List.getElem?_eq_getElem (by omega)⟩
   rw[k.rule i x y hi hy];unfold cn.ru;rw[List.getD_eq_getElem?_getD];cases h:d.rule[y]? with
   |none=>show -1<=(-1:Int)/\(-1:Int)<=1000000;omega
   |some v=>exact hd.ru v (List.mem_of_getElem? h)
def Trim (m:cn):Prop:=∀(s:Nat) (c:UInt8),s<m.next.length->0<=m.to s c->∃w,0<=m.fM (m.to s c) w
theorem vZ (hd:d.Ok) (hn:0<d.next.length):(kR d).Ok/\0<(kR d).next.length/\(kR d).next.length<=d.next.length/\Gr (kR d) d 0 0/\Trim (kR d):=by
 obtain⟨of,k,hl⟩:=Dt hd hn;have h0:=(List.getElem?_eq_some_iff.1 k.first).1;refine⟨k.NF hd hl,by omega,by have:=k.rep.ok.len;omega,fun w=>k.fM hl w 0 0 k.first,fun s c hs h=>?_⟩;obtain⟨x,hx⟩:∃x,of[s]? =some x:=⟨_,List.getElem?_eq_getElem (by omega)⟩
 rcases k.to hl hx c with ⟨h1,h2⟩|⟨⟨w,hw⟩,i,y,h2,h3,h4⟩
 · rw[h2] at h;omega
 · exact⟨w,by rw[h2,k.fM hl w i y h3,<-h4];exact hw⟩
theorem pR (d:cn):∀(l:By) (s k:Nat) (b:Int×Int),(∀w,d.fM (s:Int) w= -1)->(bz d l s k b).1=b.1/\(bz d l s k b).2.1=b.2/\(k:Int)<=(bz d l s k b).2.2
 | [],s,k,b,h=>by
  have h0:=h [];rw[dS] at h0;rw[bz,if_neg (by omega)];exact⟨rfl,rfl,Int.le_refl _⟩
 |c::l,s,k,b,h=>by
  have h0:=h [];rw[dS] at h0;rw[bz,if_neg (by omega:¬0<=d.ru s),if_neg (by omega:¬0<=d.ru s)];split
  · rename_i hp;have:=pR d l (d.to s c).toNat (k+1) b (fun w=>by rw[Int.toNat_of_nonneg hp,<-eC];exact h (c::w));exact⟨this.1,this.2.1,by have:=this.2.2;omega⟩
  · exact⟨rfl,rfl,Int.le_refl _⟩
theorem pQ {d m:cn}(hd:d.Ok) (hm:m.Ok) (ht:Trim m):∀(l:By) (s t k:Nat) (b:Int×Int),s<d.next.length->t<m.next.length->Gr d m s t ->
 (bz d l s k b).1=(bz m l t k b).1/\(bz d l s k b).2.1=(bz m l t k b).2.1/\(bz m l t k b).2.2<=(bz d l s k b).2.2
 | [],s,t,k,b,hs,htl,h=>by
  have h0:=h [];rw[dS,dS] at h0;rw[bz,bz,h0];exact⟨rfl,rfl,Int.le_refl _⟩
 |c::l,s,t,k,b,hs,htl,h=>by
  have h0:=h [];rw[dS,dS] at h0;have hl:Gr d m (d.to s c) (m.to t c):=fun w=>by rw[<-eC,<-eC];exact h _
  have h1:=cn.oQ hd (s:=s) c;have h2:=cn.oQ hm (s:=t) c;rw[bz,bz,h0]
  by_cases hmt:0<=m.to t c
  · obtain⟨w,hw⟩:=ht t c htl hmt
    have hdt:0<=d.to s c:=by
     by_cases e:d.to s c<0
     · rw[<-hl w,kf d w e] at hw;omega
     · omega
    rw[if_pos hmt,if_pos hdt];exact pQ hd hm ht l _ _ _ _ (by omega) (by omega) (fun w=>by rw[Int.toNat_of_nonneg hmt,Int.toNat_of_nonneg hdt];exact hl w)
  · rw[if_neg hmt]
    by_cases hdt:0<=d.to s c
    · rw[if_pos hdt];have hdd:=pR d l (d.to s c).toNat (k+1) (if 0<=m.ru t then ((k:Int),m.ru t) else b) (fun w=>by rw[Int.toNat_of_nonneg hdt,hl w];exact kf m w (by omega));obtain⟨d1,d2,d3⟩:=hdd;rw[d1,d2];generalize (bz d l (d.to s c).toNat (k+1) (if 0<=m.ru t then ((k:Int),m.ru t) else b)).2.2=z at *;split
      · exact⟨rfl,rfl,by show (k:Int)<=_;omega⟩
      · exact⟨rfl,rfl,by show (k:Int)<=_;omega⟩
    · rw[if_neg hdt];exact⟨rfl,rfl,Int.le_refl _⟩
theorem A8 {m:cn}(hd:d.Ok) (hm:m.Ok) (ht:Trim m) (hd0:0<d.next.length) (hm0:0<m.next.length) (hl:Gr d m 0 0) (s:By) (a:Int) :
 (dD d s a).1=(dD m s a).1/\(dD d s a).2.1=(dD m s a).2.1/\(dD m s a).2.2<=(dD d s a).2.2:=by
 unfold dD
 by_cases ha:a<0\/(s.length:Int)<a
 · rw[if_pos (.inr ha),if_pos (.inr ha)];exact⟨rfl,rfl,Int.le_refl _⟩
 · rw[if_neg (by omega),if_neg (by omega)];exact pQ hd hm ht (s.drop a.toNat) 0 0 0 (0,-1) hd0 hm0 hl
theorem sU {α:Type}[DecidableEq α]:∀(l m:List α),l.Nodup->(∀x∈l,x∈m)->l.length<=m.length
 | [],m,_,_=>Nat.zero_le _
 |a::l,m,h,hs=>by
  rw[List.nodup_cons] at h;have ha:=hs a (by simp);have:=sU l (m.erase a) h.2 (fun x hx=>(List.mem_erase_of_ne (fun e=>h.1 (by rw[<-e];exact hx))).2 (hs x (by simp[hx])));have h2:=List.length_erase_of_mem ha;have h3:=List.length_pos_of_mem ha;simp only[List.length_cons];omega
def HF (ss:List bT) (S:List (List Nat)):Prop:=∀T∈S,∀c:UInt8,(cT ss c T).length=0\/cT ss c T∈S
theorem Ck {ss:List bT}{S:List (List Nat)}{cur:List Nat}(hS:HF ss S) (hc:cur∈S):∀(n b:Nat) (lists:List (List Nat)) (row:List Int),(∀T∈lists,T∈S)->∀T∈(kQ ss cur n b lists row).1,T∈S
 | 0,b,lists,row,h=>h
 |n+1,b,lists,row,h=>by
  rw[kQ];refine Ck hS hc n (b+1) _ _ fun T hT=>?_
  unfold dN at hT;split at hT
  · exact h T hT
  · rename_i hne;split at hT
    · exact h T hT
    · rcases List.mem_append.1 hT with k|k
      · exact h T k
      · rw[List.mem_singleton.1 k];exact(hS cur hc (UInt8.ofNat b)).resolve_left hne
theorem rC {ss:List bT}{S:List (List Nat)}(hS:HF ss S) (hlen:S.length<=2000):∀(n k:Nat) (lists:List (List Nat)) (next:List Row) (rule:List Int),lists.Nodup->(∀T∈lists,T∈S)->k<=lists.length->2002<=n+k->∃d,jP ss n k lists next rule=some d
 | 0,k,lists,next,rule,hn,hin,hk,hf=>by
  have:=sU lists S hn hin;omega
 |n+1,k,lists,next,rule,hn,hin,hk,hf=>by
  rw[jP];split
  · exact⟨_,rfl⟩
  · rename_i cur hcur;have hkl:=(List.getElem?_eq_some_iff.1 hcur).1;obtain⟨h1,h2,_⟩:=qn ss cur 256 0 lists [] hn;have h3:=Ck hS (hin cur (List.mem_of_getElem? hcur)) 256 0 lists [] hin;have h4:=sU _ S h2 h3;have h5:=h1.length_le;rw[if_neg (by omega)];exact rC hS hlen n (k+1) _ _ _ h2 h3 (by omega) (by omega)
theorem Az {st:Nat}{S:List (List Nat)}(hS:HF ss S) (hlen:S.length<=2000) (h0:(cL ss st).length≠0) (hst:cL ss st∈S):∃d,gj ss st= .inr d:=by
 obtain⟨d,hd⟩:=rC hS hlen 2002 0 [cL ss st] [] [] (by simp) (fun T hT=>by rw[List.mem_singleton.1 hT];exact hst) (Nat.zero_le _) (Nat.le_refl _);refine⟨d,?_⟩;unfold gj;rw[if_neg h0,hd]
theorem qf {ss:List bT}{c r:UInt8}(h:∀x∈ss,x.set.testBit c.toNat=x.set.testBit r.toNat):∀(l a:List Nat),stepG ss c l a=stepG ss r l a
 | [],a=>rfl
 |j::l,a=>by
  rw[stepG,stepG];cases hx:ss[j]? with
  |none=>exact qf h l a
  |some x =>
   simp only;rw[show iU x c=iU x r by unfold iU;rw[h x (List.mem_of_getElem? hx)]];exact qf h l _
theorem C1 {c r:UInt8}(h:∀x∈ss,x.set.testBit c.toNat=x.set.testBit r.toNat) (T:List Nat):cT ss c T=cT ss r T:=by
 unfold cT;rw[qf h]
def xS:List (List Nat×Nat)->List Nat->Option Nat
 | [],_=>none
 |(T,h)::l,U=>if T=U then some h else xS l U
theorem tN:∀{l:List (List Nat×Nat)}{U:List Nat}{h:Nat},xS l U=some h->(U,h)∈l
 | [],U,h,e=>by cases e
 |(T,h')::l,U,h,e=>by
  rw[xS] at e;split at e
  · rename_i k;cases e;subst k;simp
  · exact List.mem_cons_of_mem _ (tN e)
def CF (ss:List bT) (H:List (List Nat×Nat)) (T:List Nat) (h:Nat) (r:UInt8):Bool :=
 (cT ss r T).isEmpty ||match xS H (cT ss r T) with
  |none=>false
  |some h'=>decide (0<=bG ss (cT ss r T)) ||decide ((if 0<=bG ss T then 0 else h)+1<=h')
def oE (ss:List bT) (H:List (List Nat×Nat)) (reps:List UInt8):Bool:=H.all fun p=>decide (p.2<=2) && reps.all fun r=>CF ss H p.1 p.2 r
def iO (ss:List bT) (tab:List UInt8) (reps:List UInt8):Bool:=decide (tab.length=256) && (List.range 256).all fun b=>reps.contains (tab.getD b 0) && ss.all fun x=>x.set.testBit b ==x.set.testBit (tab.getD b 0).toNat
theorem Hu (h:iO ss tab reps=true) (c:UInt8):∃r∈reps,∀x∈ss,x.set.testBit c.toNat=x.set.testBit r.toNat:=by
 unfold iO at h;rw[Bool.and_eq_true] at h;have h2:=List.all_eq_true.1 h.2 c.toNat (List.mem_range.2 c.toNat_lt);rw[Bool.and_eq_true] at h2;exact⟨_,by simpa using h2.1,fun x hx=>by simpa using List.all_eq_true.1 h2.2 x hx⟩
theorem AD {H:List (List Nat×Nat)}(hr:iO ss tab reps=true) (ha:oE ss H reps=true){T:List Nat}{h:Nat}(hT:(T,h)∈H) (c:UInt8) :
 (cT ss c T).length=0\/∃h',(cT ss c T,h')∈H/\h'<=2/\(0<=bG ss (cT ss c T)\/(if 0<=bG ss T then 0 else h)+1<=h'):=by
 obtain⟨r,hrm,hx⟩:=Hu hr c;rw[C1 hx];have h1:=List.all_eq_true.1 ha _ hT;rw[Bool.and_eq_true] at h1;have h2:=List.all_eq_true.1 h1.2 r hrm;simp only[CF,Bool.or_eq_true,List.isEmpty_iff] at h2
 rcases h2 with h2|h2
 · left;rw[h2];rfl
 · right
   cases hh:xS H (cT ss r T) with
   |none=>rw[hh] at h2;cases h2
   |some h' =>
    rw[hh] at h2;simp only[Bool.or_eq_true,decide_eq_true_eq] at h2;have hm:=tN hh;have h3:=List.all_eq_true.1 ha _ hm;rw[Bool.and_eq_true] at h3;exact⟨h',hm,of_decide_eq_true h3.1,h2⟩
theorem FZ {H:List (List Nat×Nat)}(hr:iO ss tab reps=true) (ha:oE ss H reps=true):HF ss (H.map (·.1)):=fun T hT c=>by
 obtain⟨⟨T',h⟩,hm,rfl⟩:=List.mem_map.1 hT
 rcases AD hr ha hm c with k|⟨h',k,_⟩
 · exact .inl k
 · exact .inr (List.mem_map.2 ⟨_,k,rfl⟩)
theorem vL {ss:List bT}{st0:Nat}{L:List (List Nat)}{d:cn}(k:mR ss st0 L d) (hL:L.length=d.next.length){H:List (List Nat×Nat)}{tab reps:List UInt8}(hr:iO ss tab reps=true) (ha:oE ss H reps=true):∀(l:By) (s j:Nat) (b:Int×Int) (T:List Nat) (h:Nat),
 L[s]? =some T->(T,h)∈H->(j:Int)<=(if 0<=bG ss T then (j:Int) else b.1+h)->(bz d l s j b).2.2<=(bz d l s j b).1+2
 | [],s,j,b,T,h,hs,hm,hj=>by
  have h2:=List.all_eq_true.1 ha _ hm;rw[Bool.and_eq_true] at h2;have h3:=of_decide_eq_true h2.1;rw[bz,k.ru hL hs];split
  · show (j:Int)<=j+2;omega
  · rename_i hn;rw[if_neg hn] at hj
    show (j:Int)<=b.1+2
    simp only at h3;omega
 |c::l,s,j,b,T,h,hs,hm,hj=>by
  have h2:=List.all_eq_true.1 ha _ hm;rw[Bool.and_eq_true] at h2;have h3:=of_decide_eq_true h2.1;simp only at h3;rw[bz,k.ru hL hs]
  rcases k.to hL hs c with ⟨h1,e1⟩|⟨h1,i,e1,hi⟩
  · rw[e1,if_neg (by decide)];split
    · show (j:Int)<=j+2;omega
    · rename_i hn;rw[if_neg hn] at hj
      show (j:Int)<=b.1+2
      omega
  · rw[e1,if_pos (by omega),Int.toNat_natCast]
    rcases AD hr ha hm c with q|⟨h',q1,q2,q3⟩
    · exact absurd q h1
    · refine vL k hL hr ha l i (j+1) _ _ h' hi q1 ?_
      by_cases hacc:0<=bG ss (cT ss c T)
      · rw[if_pos hacc];omega
      · rw[if_neg hacc];have q4:=q3.resolve_left hacc
        by_cases ht:0<=bG ss T
        · rw[if_pos ht] at q4;rw[if_pos ht]
          show ((j+1:Nat):Int)<=(j:Int)+h'
          omega
        · rw[if_neg ht] at q4 hj;rw[if_neg ht];omega
end
end Go.Proofs.YtmehdcdbeafljaaGreatDoor
namespace Go.Proofs.YtmehdcdbeafljaaGreatDoor
open Go
set_option maxRecDepth 100000
def Bj:List By:=[[91,32,92,116,92,114,93,43],[92,110],[91,97,45,122,65,45,90,95,93,91,97,45,122,65,45,90,48,45,57,95,93,42],[91,48,45,57,93,43,40,92,46,91,48,45,57,93,43,41,63,40,91,101,69,93,91,92,43,92,45,93,63,91,48,45,57,93,43,41,63],[47,47,91,94,92,110,93,42],[47,92,42],[34],[91,92,40,92,91,123,93],[91,92,41,92,93,125,93],[91,92,43,92,45,92,42,47,37,60,62,33,61,44,59,58,92,46,93,124,61,61,124,33,61,124,60,61,124,62,61,124,38,38,124,92,124,92,124,124,92,45,62]]
def wW:List bT:=[⟨2,0,[],0⟩,⟨0,0,[2,0],0⟩,⟨1,4294976000,[1],0⟩,⟨2,0,[],1⟩,⟨1,1024,[3],0⟩,⟨2,0,[],2⟩,⟨0,0,[7,5],0⟩,⟨1,10633823849912963253799171395480977408,[6],0⟩,⟨1,10633823849912963253511222494305976320,[6],0⟩,⟨2,0,[],3⟩,⟨0,0,[11,9],0⟩,⟨1,287948901175001088,[10],0⟩,⟨1,43980465111040,[11],0⟩,⟨0,0,[12,11],0⟩,⟨1,2535301201046754613352112062464,[13],0⟩,⟨0,0,[14,9],0⟩,⟨0,0,[17,15],0⟩,⟨1,287948901175001088,[16],0⟩,⟨1,70368744177664,[17],0⟩,⟨0,0,[18,15],0⟩,⟨0,0,[21,19],0⟩,⟨1,287948901175001088,[20],0⟩,⟨2,0,[],4⟩,⟨0,0,[24,22],0⟩,⟨1,115792089237316195423570985008687907853269984665640564039457584007913129638911,[23],0⟩,⟨1,140737488355328,[23],0⟩,⟨1,140737488355328,[25],0⟩,⟨2,0,[],5⟩,⟨1,4398046511104,[27],0⟩,⟨1,140737488355328,[28],0⟩,⟨2,0,[],6⟩,⟨1,17179869184,[30],0⟩,⟨2,0,[],7⟩,⟨1,10633823968755207061801218131552632832,[32],0⟩,⟨2,0,[],8⟩,⟨1,42535295875020828247204870327187275776,[34],0⟩,⟨2,0,[],9⟩,⟨1,8935418883662151680,[36],0⟩,⟨1,2305843009213693952,[36],0⟩,⟨1,2305843009213693952,[38],0⟩,⟨1,2305843009213693952,[36],0⟩,⟨1,8589934592,[40],0⟩,⟨1,2305843009213693952,[36],0⟩,⟨1,1152921504606846976,[42],0⟩,⟨1,2305843009213693952,[36],0⟩,⟨1,4611686018427387904,[44],0⟩,⟨1,274877906944,[36],0⟩,⟨1,274877906944,[46],0⟩,⟨1,21267647932558653966460912964485513216,[36],0⟩,⟨1,21267647932558653966460912964485513216,[48],0⟩,⟨1,4611686018427387904,[36],0⟩,⟨1,35184372088832,[50],0⟩,⟨0,0,[37,39,41,43,45,47,49,51],0⟩,⟨0,0,[2,4,8,21,26,29,31,33,35,52],0⟩]
theorem M3:fj Bj= .inr (wW,53):=rfl
def JO:List (List Nat×Nat):=[([2,4,8,21,26,29,31,33,35,37,39,41,43,45,47,49,51],0),([0,2],0),([3],0),([36,40],0),([30],0),([36],0),([46],1),([32],0),([34],0),([36,50],0),([25,28,36],0),([9,14,18,21],0),([36,42],0),([36,38],0),([36,44],0),([5,7],0),([48],1),([27],0),([22,24],0),([17],1),([11,12],1),([9,14,17],0),([11],2),([9,11],0)]
def Mj:List UInt8:=[0,0,0,0,0,0,0,0,0,9,10,0,0,9,0,0,0,0,0,0,0,0,0,0,0,0,0,0,0,0,0,0,9,33,34,0,0,37,38,0,40,41,42,43,37,45,46,47,48,48,48,48,48,48,48,48,48,48,37,37,60,61,62,0,0,65,65,65,65,69,65,65,65,65,65,65,65,65,65,65,65,65,65,65,65,65,65,65,65,65,65,40,0,41,0,65,0,65,65,65,65,69,65,65,65,65,65,65,65,65,65,65,65,65,65,65,65,65,65,65,65,65,65,40,124,41]++List.replicate 130 0
def Ia:List UInt8:=[0,9,10,33,34,37,38,40,41,42,43,45,46,47,48,60,61,62,65,69,124]
def Bi:List By:=[[91,94,34,92,92,92,110,93,43],[92,92,91,110,114,116,34,92,92,48,93],[34],[92,110]]
def wV:List bT:=[⟨2,0,[],0⟩,⟨0,0,[2,0],0⟩,⟨1,115792089237316195423570985008687907853269984665635612279300442486796353272831,[1],0⟩,⟨2,0,[],1⟩,⟨1,105144016337090416619545142419783680,[3],0⟩,⟨1,4951760157141521099596496896,[4],0⟩,⟨2,0,[],2⟩,⟨1,17179869184,[6],0⟩,⟨2,0,[],3⟩,⟨1,1024,[8],0⟩,⟨0,0,[2,5,7,9],0⟩]
theorem GW:fj Bi= .inr (wV,10):=rfl
def La:List (List Nat×Nat):=[([2,5,7,9],0),([0,2],0),([8],0),([6],0),([4],1),([3],0)]
def Mi:List UInt8:=[0,0,0,0,0,0,0,0,0,0,10,0,0,0,0,0,0,0,0,0,0,0,0,0,0,0,0,0,0,0,0,0,0,0,34,0,0,0,0,0,0,0,0,0,0,0,0,0,48]++List.replicate 43 0++[92,0,0,0,0,0,0,0,0,0,0,0,0,0,0,0,0,0,48,0,0,0,48,0,48]++List.replicate 139 0
def H9:List UInt8:=[0,10,34,48,92]
def Bh:List By:=[[47,92,42],[92,42,47],[91,94,92,42,47,93,43],[91,92,42,47,93]]
def wU:List bT:=[⟨2,0,[],0⟩,⟨1,4398046511104,[0],0⟩,⟨1,140737488355328,[1],0⟩,⟨2,0,[],1⟩,⟨1,140737488355328,[3],0⟩,⟨1,4398046511104,[4],0⟩,⟨2,0,[],2⟩,⟨0,0,[8,6],0⟩,⟨1,115792089237316195423570985008687907853269984665640564039457583862777594773503,[7],0⟩,⟨2,0,[],3⟩,⟨1,145135534866432,[9],0⟩,⟨0,0,[2,5,8,10],0⟩]
theorem M1:fj Bh= .inr (wU,11):=rfl
def tO:List (List Nat×Nat):=[([2,5,8,10],0),([6,8],0),([4,9],0),([1,9],0),([3],0),([0],0)]
def Mh:List UInt8:=List.replicate 42 0++[42,0,0,0,0,47]++List.replicate 208 0
def H8:List UInt8:=[0,42,47]
theorem Lo:iO wW Mj Ia=true:=by decide +kernel
theorem Lr:oE wW JO Ia=true:=by decide +kernel
theorem Ll:xS JO (cL wW 53)=some 0/\cL wW 53≠[]/\¬0<=bG wW (cL wW 53):=by decide +kernel
theorem Ln:iO wV Mi H9=true:=by decide +kernel
theorem Lq:oE wV La H9=true:=by decide +kernel
theorem Lj:xS La (cL wV 10)=some 0/\cL wV 10≠[]/\¬0<=bG wV (cL wV 10):=by decide +kernel
theorem Lm:iO wU Mh H8=true:=by decide +kernel
theorem Lp:oE wU tO H8=true:=by decide +kernel
theorem Li:xS tO (cL wU 11)=some 0/\cL wU 11≠[]/\¬0<=bG wU (cL wU 11):=by decide +kernel
end Go.Proofs.YtmehdcdbeafljaaGreatDoor
