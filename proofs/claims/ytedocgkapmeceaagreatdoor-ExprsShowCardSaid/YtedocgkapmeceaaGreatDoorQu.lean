/- What the proof of the statement leans on (part 21). -/
import Derived.Lib.LaidTab
import Derived.Test.YtedocgkapmeceaaGreatDoorQt

namespace Go.Proofs.YtedocgkapmeceaaGreatDoor
open Go.Proofs.Tryz
open Go Go.Lw Go.ChangeShapes Go.WideShapes Go.ChangeAt Go.RowKit
set_option maxRecDepth 20000
theorem G1 {W:World}{g t:Nat}{cs:Array Value}{fuel:Nat}{pl:List MemPlace}{sp:Nat→Bool}{held:Bool}{enc:TypeId×Value→Unit}(hg:Tryz.prog.globalNamed "internal/strconv.uint64pow10" =some g) (ht:(Tryz.prog.globals[g]?).map (·.type)=some t) (hv:W.var? Tryz.prog "internal/strconv.uint64pow10" =some cs)
 (hd:DataW.trod enc Tryz.prog W 0 sp held fuel t cs.toList=some (Rows.laid_internal_strconv_uint64pow10,pl)):th W.heap:=by
 have gT:Tryz.prog.globalNamed "internal/strconv.uint64pow10" =some 8:=by kernel_rfl
 have tT:(Tryz.prog.globals[8]?).map (·.type)=some 275:=by kernel_rfl
 obtain rfl:=Option.some.inj (gT.symm.trans hg);obtain rfl:=Option.some.inj (tT.symm.trans ht);unfold th;rw[←zG,hv];have hd2:DataW.trod enc Tryz.prog W 0 sp held fuel 275 cs.toList=some (Lib.tabData .u64 Lib.pow10Tab,pl):=hd;rw[←Lib.cells_of_tab underlying275 underlying122 (by kernel_rfl) (by kernel_rfl) hd2]
end Go.Proofs.YtedocgkapmeceaaGreatDoor
namespace Go.Proofs.YtedocgkapmeceaaGreatDoor
open Go
section
variable {of:List Nat}{t:Int}{d:ct}{ss:List b6}{tab reps:List UInt8}
def GP (d e:ct) (a b:Int):Prop:=∀w,d.fL a w=e.fL b w
inductive CG (d e:ct):List Nat→List Nat→Prop
 |nil:CG d e [] []
 |cons {x y:Nat}{o p:List Nat}:x<d.next.length→y<e.next.length→GP d e x y→CG d e o p→CG d e (x::o) (y::p)
theorem AF {live:List Bool}{cls:List Int}:of <+: (de live cls of t).1:=by
 unfold de;split
 · exact List.prefix_refl _
 · split
   · exact List.prefix_refl _
   · exact List.prefix_append _ _
theorem oK {live:List Bool}{cls:List Int}:∀(r:List Int) (of:List Nat) (row:List Int),of <+: (fM live cls r of row).1
 | [],of,row=>List.prefix_refl _
 |t::r,of,row=>by
  rw[fM];exact AF.trans (oK r _ _)
theorem IX (hd:d.Ok) (k:Nat):∀t∈d.row k,t<(d.next.length:Int):=fun t ht=>by
 obtain⟨c,rfl⟩:=Fk ht;exact(ct.pL hd c).2
def o8 (d:ct) (of:List Nat) (t y:Int):Prop:=((∀w,d.fL t w= -1)∧y= -1)∨((∃w,0≤d.fL t w)∧∃(i x:Nat),y=(i:Int)∧of[i]? =some x∧Alike d t x)
theorem o8.mono {of':List Nat}{y:Int}(k:o8 d of t y) (h:of <+: of'):o8 d of' t y:=by
 rcases k with k|⟨k,i,x,e,hi,ha⟩
 · exact .inl k
 · obtain⟨l,rfl⟩:=h;exact .inr ⟨k,i,x,e,by rw[List.getElem?_append_left (List.getElem?_eq_some_iff.1 hi).1];exact hi,ha⟩
def K6 (d:ct) (of:List Nat):Prop:=∀(i j x y:Nat),of[i]? =some x→of[j]? =some y→Alike d x y→i=j
structure K2 (d:ct) (of:List Nat):Prop where
 ok:Bs d.next.length of
 apart:K6 d of
theorem AE (hd:d.Ok) (k:K2 d of) (ht:t<d.next.length) :
 K2 d (de (bQ d) (eo d (bQ d)) of t).1∧o8 d (de (bQ d) (eo d (bQ d)) of t).1 t (de (bQ d) (eo d (bQ d)) of t).2:=by
 have hdead:=jj hd ht;have hok:=uw (live:=bQ d) (cls:=eo d (bQ d)) k.ok ht
 revert hok
 unfold de;split
 · rename_i h;exact fun _=>⟨k,.inl ⟨hdead.1 h,rfl⟩⟩
 · rename_i h
   have halive:∃w,0≤d.fL t w:=by
    by_cases q:∃w,0≤d.fL t w
    · exact q
    · refine absurd (hdead.2 fun w=>?_) h;have h1:=CR hd t w;have h2:¬0≤d.fL t w:=fun z=>q ⟨w,z⟩
      omega
   obtain⟨n,rfl⟩:=Int.eq_ofNat_of_zero_le (show 0≤t by omega);simp only[Int.toNat_natCast];split
   · rename_i i hi;intro _;obtain⟨_,x,hx,he⟩:=uZ of 0 i _ hi;have hxl:=k.ok.lt x (List.mem_of_getElem? hx);exact⟨k,.inr ⟨halive,i,x,rfl,by simpa using hx,(mZ hd (by omega) hxl).1 he⟩⟩
   · rename_i hi;intro hok;have hne:=oU of 0 _ hi;refine⟨⟨hok,fun i j x y hx hy ha=>?_⟩,.inr ⟨halive,of.length,n,rfl,by simp,fun w=>rfl⟩⟩
     have hcase:∀(i x:Nat),(of++[n])[i]? =some x→(i<of.length∧of[i]? =some x)∨(i=of.length∧x=n):=fun i x hx=>by
      rcases Nat.lt_or_ge i of.length with hl|hl
      · rw[List.getElem?_append_left hl] at hx;exact .inl ⟨hl,hx⟩
      · have:=(List.getElem?_eq_some_iff.1 hx).1;simp at this;have hil:i=of.length:=by omega
        subst hil;simp only[List.getElem?_concat_length,Option.some.injEq] at hx;exact .inr ⟨rfl,hx.symm⟩
     rcases hcase i x hx with ⟨h1,h2⟩|⟨h1,h2⟩<;>rcases hcase j y hy with ⟨h3,h4⟩|⟨h3,h4⟩
     · exact k.apart i j x y h2 h4 ha
     · subst h4;have hxm:=List.mem_of_getElem? h2;exact absurd ((mZ hd (by omega) (k.ok.lt x hxm)).2 fun w=>(ha w).symm) (hne x hxm)
     · subst h2;have hym:=List.mem_of_getElem? h4;exact absurd ((mZ hd (by omega) (k.ok.lt y hym)).2 ha) (hne y hym)
     · omega
theorem ux {d:ct}(hd:d.Ok):∀(r:List Int) (of:List Nat) (row:List Int),K2 d of→(∀t∈r,t<(d.next.length:Int)) →
 K2 d (fM (bQ d) (eo d (bQ d)) r of row).1∧∃ys,(fM (bQ d) (eo d (bQ d)) r of row).2=row++ys∧ys.length=r.length∧∀(j:Nat) (t y:Int),r[j]? =some t→ys[j]? =some y→o8 d (fM (bQ d) (eo d (bQ d)) r of row).1 t y
 | [],of,row,k,_=>⟨k,[],by simp[fM],rfl,fun j t y h=>by simp at h⟩
 |t::r,of,row,k,h=>by
  obtain⟨h1,h2⟩:=AE hd k (h t (by simp));obtain⟨k1,ys,k3,k4,k5⟩:=ux hd r (de (bQ d) (eo d (bQ d)) of t).1 (row++[(de (bQ d) (eo d (bQ d)) of t).2]) h1 (fun u hu=>h u (by simp[hu]));rw[fM];refine⟨k1,(de (bQ d) (eo d (bQ d)) of t).2::ys,by rw[k3];simp,by simp[k4],fun j u y hu hy=>?_⟩;cases j with
  |zero =>
   simp only[List.getElem?_cons_zero,Option.some.injEq] at hu hy;subst hu;subst hy;exact h2.mono (oK _ _ _)
  |succ j=>exact k5 j u y (by simpa using hu) (by simpa using hy)
structure vM (d:ct) (of:List Nat) (m:ct):Prop where
 rep:K2 d of
 first:of[0]? =some 0
 rlen:m.rule.length=m.next.length
 row:∀(k:Nat) (r:Row) (x:Nat),m.next[k]? =some r→of[k]? =some x→∀(c:UInt8) (y:Int),r.v[c.toNat]? =some y→o8 d of (d.to x c) y
 rule:∀(k:Nat) (y:Int) (x:Nat),m.rule[k]? =some y→of[k]? =some x→y=d.ru x
theorem AG {d:ct}(hd:d.Ok):∀(n i:Nat) (of:List Nat) (next:List Row) (rule:List Int),vM d of ⟨next,rule⟩→next.length=i→i≤of.length→n+i=d.next.length+1 →
 ∃of',vM d of' (AH d (bQ d) (eo d (bQ d)) n i of next rule)∧of'.length=(AH d (bQ d) (eo d (bQ d)) n i of next rule).next.length
 | 0,i,of,next,rule,h,hi,hio,hn=>by have:=h.rep.ok.len;omega
 |n+1,i,of,next,rule,h,hi,hio,hn=>by
  rw[AH];split
  · rename_i hnone;have:=List.getElem?_eq_none_iff.1 hnone;exact⟨of,h,by show of.length=next.length;omega⟩
  · rename_i x hx;have hxl:=h.rep.ok.lt x (List.mem_of_getElem? hx);obtain⟨k1,ys,k3,k4,k5⟩:=ux hd (d.row x) of [] h.rep (IX hd x);have hpre:=oK (live:=bQ d) (cls:=eo d (bQ d)) (d.row x) of [];rw[yj hxl] at k4;have hol:=(List.getElem?_eq_some_iff.1 hx).1;generalize fM (bQ d) (eo d (bQ d)) (d.row x) of []=q at *
    have hb:∀(j y:Nat),j<of.length→q.1[j]? =some y→of[j]? =some y:=fun j y hj hy=>by
     obtain⟨t,ht⟩:=hpre;rw[←ht,List.getElem?_append_left hj] at hy;exact hy
    have hf:∀(j y:Nat),of[j]? =some y→q.1[j]? =some y:=fun j y hy=>by
     obtain⟨t,ht⟩:=hpre;rw[←ht,List.getElem?_append_left (List.getElem?_eq_some_iff.1 hy).1];exact hy
    have hrl:rule.length=next.length:=h.rlen
    have hlen:=hpre.length_le;refine AG hd n (i+1) _ _ _ ⟨k1,hf _ _ h.first,by simp[hrl],fun k r z hr hz c y hy=>?_,fun k y z hy hz=>?_⟩ (by simp[hi]) (by omega) (by omega)
    · rcases Nat.lt_or_ge k next.length with hk|hk
      · rw[List.getElem?_append_left hk] at hr;exact(h.row k r z hr (hb k z (by omega) hz) c y hy).mono hpre
      · have hkn:k=next.length:=by
         have:=(List.getElem?_eq_some_iff.1 hr).1;simp at this;omega
        subst hkn;simp only[List.getElem?_concat_length,Option.some.injEq] at hr;subst hr;have hzx:=hb _ z (by omega) hz;rw[hi,hx] at hzx;cases hzx;rw[k3,List.nil_append,tw k4] at hy;exact k5 c.toNat _ y (pU hxl c) hy
    · rcases Nat.lt_or_ge k rule.length with hk|hk
      · rw[List.getElem?_append_left hk] at hy;exact h.rule k y z hy (hb k z (by omega) hz)
      · have hkn:k=rule.length:=by
         have:=(List.getElem?_eq_some_iff.1 hy).1;simp at this;omega
        subst hkn;simp only[List.getElem?_concat_length,Option.some.injEq] at hy;subst hy;have hzx:=hb _ z (by omega) hz;rw[hrl,hi,hx] at hzx;cases hzx;rfl
theorem D6 (hd:d.Ok) (hn:0<d.next.length):∃of,vM d of (lB d)∧of.length=(lB d).next.length:=by
 unfold lB;rw[if_neg (by omega)];refine AG hd _ 0 [0] [] [] ⟨⟨⟨by simp,fun x hx=>by simp at hx;omega⟩,fun i j x y hx hy _=>?_⟩,rfl,rfl,fun k r x hr=>by simp at hr,fun k y x hy=>by simp at hy⟩ rfl (by simp) (by omega);have h1:=(List.getElem?_eq_some_iff.1 hx).1;have h2:=(List.getElem?_eq_some_iff.1 hy).1;simp at h1 h2;omega
theorem vM.to {d m:ct}{of:List Nat}(k:vM d of m) (hl:of.length=m.next.length){s x:Nat}(hx:of[s]? =some x) (c:UInt8):o8 d of (d.to x c) (m.to s c):=by
 have hs:=(List.getElem?_eq_some_iff.1 hx).1;have hr:m.next[s]? =some (m.next[s]'(by omega)):=List.getElem?_eq_getElem _
 obtain⟨y,hy,he,_⟩:=(m.next[s]'(by omega)).at c;unfold ct.to;rw[hr];simp only;rw[he];exact k.row s _ x hr hx c y hy
theorem vM.ru {d m:ct}{of:List Nat}(k:vM d of m) (hl:of.length=m.next.length){s x:Nat}(hx:of[s]? =some x):m.ru s=d.ru x:=by
 have hs:=(List.getElem?_eq_some_iff.1 hx).1;have hlt:s<m.rule.length:=by rw[k.rlen];omega
 have hr:m.rule[s]? =some (m.rule[s]'hlt):=List.getElem?_eq_getElem _;have:=k.rule s _ x hr hx;unfold ct.ru at this ⊢;rw[List.getD_eq_getElem?_getD,hr];exact this
theorem vM.fL {d m:ct}{of:List Nat}(k:vM d of m) (hl:of.length=m.next.length):∀(w:By) (s x:Nat),of[s]? =some x→m.fL (s:Int) w=d.fL (x:Int) w
 | [],s,x,hx=>by rw[dV,dV,k.ru hl hx]
 |c::w,s,x,hx=>by
  rw[eC,eC]
  rcases k.to hl hx c with ⟨h1,h2⟩|⟨_,i,y,h2,h3,h4⟩
  · rw[h2,kC m w (by decide),h1]
  · rw[h2,k.fL hl w i y h3,h4]
theorem vM.My {m:ct}(hd:d.Ok) (k:vM d of m) (hl:of.length=m.next.length):m.Ok:=by
 refine⟨k.rlen,by have:=k.rep.ok.len;have:=hd.size;omega,fun r hr x hx=>?_,fun x hx=>?_⟩
 · obtain⟨i,hi⟩:=List.getElem?_of_mem hr;obtain⟨j,hj⟩:=List.getElem?_of_mem hx;have hil:=(List.getElem?_eq_some_iff.1 hi).1;have hjl:=(List.getElem?_eq_some_iff.1 hj).1;rw[r.len] at hjl;have hc:(UInt8.ofNat j).toNat=j:=by simp;omega
   obtain⟨y,hy⟩:∃y,of[i]? =some y:=⟨_,List.getElem?_eq_getElem (by omega)⟩
   rcases k.row i r y hi hy (UInt8.ofNat j) x (by rw[hc];exact hj) with ⟨_,rfl⟩|⟨_,a,z,rfl,h3,_⟩
   · omega
   · have:=(List.getElem?_eq_some_iff.1 h3).1;omega
 · obtain⟨i,hi⟩:=List.getElem?_of_mem hx;have hil:=(List.getElem?_eq_some_iff.1 hi).1;have:=k.rlen;obtain⟨y,hy⟩:∃y,of[i]? =some y:=⟨_,List.getElem?_eq_getElem (by omega)⟩
   rw[k.rule i x y hi hy];unfold ct.ru;rw[List.getD_eq_getElem?_getD];cases h:d.rule[y]? with
   |none=>show -1≤(-1:Int)∧(-1:Int)≤1000000;omega
   |some v=>exact hd.ru v (List.mem_of_getElem? h)
def Trim (m:ct):Prop:=∀(s:Nat) (c:UInt8),s<m.next.length→0≤m.to s c→∃w,0≤m.fL (m.to s c) w
theorem wZ (hd:d.Ok) (hn:0<d.next.length):(lB d).Ok∧0<(lB d).next.length∧(lB d).next.length≤d.next.length∧GP (lB d) d 0 0∧Trim (lB d):=by
 obtain⟨of,k,hl⟩:=D6 hd hn;have h0:=(List.getElem?_eq_some_iff.1 k.first).1;refine⟨k.My hd hl,by omega,by have:=k.rep.ok.len;omega,fun w=>k.fL hl w 0 0 k.first,fun s c hs h=>?_⟩;obtain⟨x,hx⟩:∃x,of[s]? =some x:=⟨_,List.getElem?_eq_getElem (by omega)⟩
 rcases k.to hl hx c with ⟨h1,h2⟩|⟨⟨w,hw⟩,i,y,h2,h3,h4⟩
 · rw[h2] at h;omega
 · exact⟨w,by rw[h2,k.fL hl w i y h3,←h4];exact hw⟩
theorem qz (d:ct):∀(l:By) (s k:Nat) (b:Int×Int),(∀w,d.fL (s:Int) w= -1)→(bC d l s k b).1=b.1∧(bC d l s k b).2.1=b.2∧(k:Int)≤(bC d l s k b).2.2
 | [],s,k,b,h=>by
  have h0:=h [];rw[dV] at h0;rw[bC,if_neg (by omega)];exact⟨rfl,rfl,Int.le_refl _⟩
 |c::l,s,k,b,h=>by
  have h0:=h [];rw[dV] at h0;rw[bC,if_neg (by omega:¬0≤d.ru s),if_neg (by omega:¬0≤d.ru s)];split
  · rename_i hp;have:=qz d l (d.to s c).toNat (k+1) b (fun w=>by rw[Int.toNat_of_nonneg hp,←eC];exact h (c::w));exact⟨this.1,this.2.1,by have:=this.2.2;omega⟩
  · exact⟨rfl,rfl,Int.le_refl _⟩
theorem qy {d m:ct}(hd:d.Ok) (hm:m.Ok) (ht:Trim m):∀(l:By) (s t k:Nat) (b:Int×Int),s<d.next.length→t<m.next.length→GP d m s t →
 (bC d l s k b).1=(bC m l t k b).1∧(bC d l s k b).2.1=(bC m l t k b).2.1∧(bC m l t k b).2.2≤(bC d l s k b).2.2
 | [],s,t,k,b,hs,htl,h=>by
  have h0:=h [];rw[dV,dV] at h0;rw[bC,bC,h0];exact⟨rfl,rfl,Int.le_refl _⟩
 |c::l,s,t,k,b,hs,htl,h=>by
  have h0:=h [];rw[dV,dV] at h0;have hl:GP d m (d.to s c) (m.to t c):=fun w=>by rw[←eC,←eC];exact h _
  have h1:=ct.pL hd (s:=s) c;have h2:=ct.pL hm (s:=t) c;rw[bC,bC,h0]
  by_cases hmt:0≤m.to t c
  · obtain⟨w,hw⟩:=ht t c htl hmt
    have hdt:0≤d.to s c:=by
     by_cases e:d.to s c<0
     · rw[←hl w,kC d w e] at hw;omega
     · omega
    rw[if_pos hmt,if_pos hdt];exact qy hd hm ht l _ _ _ _ (by omega) (by omega) (fun w=>by rw[Int.toNat_of_nonneg hmt,Int.toNat_of_nonneg hdt];exact hl w)
  · rw[if_neg hmt]
    by_cases hdt:0≤d.to s c
    · rw[if_pos hdt];have hdd:=qz d l (d.to s c).toNat (k+1) (if 0≤m.ru t then ((k:Int),m.ru t) else b) (fun w=>by rw[Int.toNat_of_nonneg hdt,hl w];exact kC m w (by omega));obtain⟨d1,d2,d3⟩:=hdd;rw[d1,d2];generalize (bC d l (d.to s c).toNat (k+1) (if 0≤m.ru t then ((k:Int),m.ru t) else b)).2.2=z at *;split
      · exact⟨rfl,rfl,by show (k:Int)≤_;omega⟩
      · exact⟨rfl,rfl,by show (k:Int)≤_;omega⟩
    · rw[if_neg hdt];exact⟨rfl,rfl,Int.le_refl _⟩
theorem BJ {m:ct}(hd:d.Ok) (hm:m.Ok) (ht:Trim m) (hd0:0<d.next.length) (hm0:0<m.next.length) (hl:GP d m 0 0) (s:By) (a:Int) :
 (dn d s a).1=(dn m s a).1∧(dn d s a).2.1=(dn m s a).2.1∧(dn m s a).2.2≤(dn d s a).2.2:=by
 unfold dn
 by_cases ha:a<0∨(s.length:Int)<a
 · rw[if_pos (.inr ha),if_pos (.inr ha)];exact⟨rfl,rfl,Int.le_refl _⟩
 · rw[if_neg (by omega),if_neg (by omega)];exact qy hd hm ht (s.drop a.toNat) 0 0 0 (0,-1) hd0 hm0 hl
theorem uh {α:Type}[DecidableEq α]:∀(l m:List α),l.Nodup→(∀x∈l,x∈m)→l.length≤m.length
 | [],m,_,_=>Nat.zero_le _
 |a::l,m,h,hs=>by
  rw[List.nodup_cons] at h;have ha:=hs a (by simp);have:=uh l (m.erase a) h.2 (fun x hx=>(List.mem_erase_of_ne (fun e=>h.1 (by rw[←e];exact hx))).2 (hs x (by simp[hx])));have h2:=List.length_erase_of_mem ha;have h3:=List.length_pos_of_mem ha;simp only[List.length_cons];omega
def HL (ss:List b6) (S:List (List Nat)):Prop:=∀T∈S,∀c:UInt8,(cR ss c T).length=0∨cR ss c T∈S
theorem CW {ss:List b6}{S:List (List Nat)}{cur:List Nat}(hS:HL ss S) (hc:cur∈S):∀(n b:Nat) (lists:List (List Nat)) (row:List Int),(∀T∈lists,T∈S)→∀T∈(lu ss cur n b lists row).1,T∈S
 | 0,b,lists,row,h=>h
 |n+1,b,lists,row,h=>by
  rw[lu];refine CW hS hc n (b+1) _ _ fun T hT=>?_
  unfold dN at hT;split at hT
  · exact h T hT
  · rename_i hne;split at hT
    · exact h T hT
    · rcases List.mem_append.1 hT with k|k
      · exact h T k
      · rw[List.mem_singleton.1 k];exact(hS cur hc (UInt8.ofNat b)).resolve_left hne
theorem sy {ss:List b6}{S:List (List Nat)}(hS:HL ss S) (hlen:S.length≤2000):∀(n k:Nat) (lists:List (List Nat)) (next:List Row) (rule:List Int),lists.Nodup→(∀T∈lists,T∈S)→k≤lists.length→2002≤n+k→∃d,jQ ss n k lists next rule=some d
 | 0,k,lists,next,rule,hn,hin,hk,hf=>by
  have:=uh lists S hn hin;omega
 |n+1,k,lists,next,rule,hn,hin,hk,hf=>by
  rw[jQ];split
  · exact⟨_,rfl⟩
  · rename_i cur hcur;have hkl:=(List.getElem?_eq_some_iff.1 hcur).1;obtain⟨h1,h2,_⟩:=qV ss cur 256 0 lists [] hn;have h3:=CW hS (hin cur (List.mem_of_getElem? hcur)) 256 0 lists [] hin;have h4:=uh _ S h2 h3;have h5:=h1.length_le;rw[if_neg (by omega)];exact sy hS hlen n (k+1) _ _ _ h2 h3 (by omega) (by omega)
theorem A8 {st:Nat}{S:List (List Nat)}(hS:HL ss S) (hlen:S.length≤2000) (h0:(cH ss st).length≠0) (hst:cH ss st∈S):∃d,gj ss st= .inr d:=by
 obtain⟨d,hd⟩:=sy hS hlen 2002 0 [cH ss st] [] [] (by simp) (fun T hT=>by rw[List.mem_singleton.1 hT];exact hst) (Nat.zero_le _) (Nat.le_refl _);refine⟨d,?_⟩;unfold gj;rw[if_neg h0,hd]
theorem qP {ss:List b6}{c r:UInt8}(h:∀x∈ss,x.set.testBit c.toNat=x.set.testBit r.toNat):∀(l a:List Nat),stepG ss c l a=stepG ss r l a
 | [],a=>rfl
 |j::l,a=>by
  rw[stepG,stepG];cases hx:ss[j]? with
  |none=>exact qP h l a
  |some x =>
   simp only;rw[show iT x c=iT x r by unfold iT;rw[h x (List.mem_of_getElem? hx)]];exact qP h l _
theorem DD {c r:UInt8}(h:∀x∈ss,x.set.testBit c.toNat=x.set.testBit r.toNat) (T:List Nat):cR ss c T=cR ss r T:=by
 unfold cR;rw[qP h]
def yO:List (List Nat×Nat)→List Nat→Option Nat
 | [],_=>none
 |(T,h)::l,U=>if T=U then some h else yO l U
theorem uQ:∀{l:List (List Nat×Nat)}{U:List Nat}{h:Nat},yO l U=some h→(U,h)∈l
 | [],U,h,e=>by cases e
 |(T,h')::l,U,h,e=>by
  rw[yO] at e;split at e
  · rename_i k;cases e;subst k;simp
  · exact List.mem_cons_of_mem _ (uQ e)
def Df (ss:List b6) (H:List (List Nat×Nat)) (T:List Nat) (h:Nat) (r:UInt8):Bool :=
 (cR ss r T).isEmpty ||match yO H (cR ss r T) with
  |none=>false
  |some h'=>decide (0≤bK ss (cR ss r T)) ||decide ((if 0≤bK ss T then 0 else h)+1≤h')
def oZ (ss:List b6) (H:List (List Nat×Nat)) (reps:List UInt8):Bool:=H.all fun p=>decide (p.2≤2) && reps.all fun r=>Df ss H p.1 p.2 r
def iO (ss:List b6) (tab:List UInt8) (reps:List UInt8):Bool:=decide (tab.length=256) && (List.range 256).all fun b=>reps.contains (tab.getD b 0) && ss.all fun x=>x.set.testBit b ==x.set.testBit (tab.getD b 0).toNat
theorem HD (h:iO ss tab reps=true) (c:UInt8):∃r∈reps,∀x∈ss,x.set.testBit c.toNat=x.set.testBit r.toNat:=by
 unfold iO at h;rw[Bool.and_eq_true] at h;have h2:=List.all_eq_true.1 h.2 c.toNat (List.mem_range.2 c.toNat_lt);rw[Bool.and_eq_true] at h2;exact⟨_,by simpa using h2.1,fun x hx=>by simpa using List.all_eq_true.1 h2.2 x hx⟩
theorem Bc {H:List (List Nat×Nat)}(hr:iO ss tab reps=true) (ha:oZ ss H reps=true){T:List Nat}{h:Nat}(hT:(T,h)∈H) (c:UInt8) :
 (cR ss c T).length=0∨∃h',(cR ss c T,h')∈H∧h'≤2∧(0≤bK ss (cR ss c T)∨(if 0≤bK ss T then 0 else h)+1≤h'):=by
 obtain⟨r,hrm,hx⟩:=HD hr c;rw[DD hx];have h1:=List.all_eq_true.1 ha _ hT;rw[Bool.and_eq_true] at h1;have h2:=List.all_eq_true.1 h1.2 r hrm;simp only[Df,Bool.or_eq_true,List.isEmpty_iff] at h2
 rcases h2 with h2|h2
 · left;rw[h2];rfl
 · right
   cases hh:yO H (cR ss r T) with
   |none=>rw[hh] at h2;cases h2
   |some h' =>
    rw[hh] at h2;simp only[Bool.or_eq_true,decide_eq_true_eq] at h2;have hm:=uQ hh;have h3:=List.all_eq_true.1 ha _ hm;rw[Bool.and_eq_true] at h3;exact⟨h',hm,of_decide_eq_true h3.1,h2⟩
theorem Gp {H:List (List Nat×Nat)}(hr:iO ss tab reps=true) (ha:oZ ss H reps=true):HL ss (H.map (·.1)):=fun T hT c=>by
 obtain⟨⟨T',h⟩,hm,rfl⟩:=List.mem_map.1 hT
 rcases Bc hr ha hm c with k|⟨h',k,_⟩
 · exact .inl k
 · exact .inr (List.mem_map.2 ⟨_,k,rfl⟩)
theorem wL {ss:List b6}{st0:Nat}{L:List (List Nat)}{d:ct}(k:nC ss st0 L d) (hL:L.length=d.next.length){H:List (List Nat×Nat)}{tab reps:List UInt8}(hr:iO ss tab reps=true) (ha:oZ ss H reps=true):∀(l:By) (s j:Nat) (b:Int×Int) (T:List Nat) (h:Nat),
 L[s]? =some T→(T,h)∈H→(j:Int)≤(if 0≤bK ss T then (j:Int) else b.1+h)→(bC d l s j b).2.2≤(bC d l s j b).1+2
 | [],s,j,b,T,h,hs,hm,hj=>by
  have h2:=List.all_eq_true.1 ha _ hm;rw[Bool.and_eq_true] at h2;have h3:=of_decide_eq_true h2.1;rw[bC,k.ru hL hs];split
  · show (j:Int)≤j+2;omega
  · rename_i hn;rw[if_neg hn] at hj
    show (j:Int)≤b.1+2
    simp only at h3;omega
 |c::l,s,j,b,T,h,hs,hm,hj=>by
  have h2:=List.all_eq_true.1 ha _ hm;rw[Bool.and_eq_true] at h2;have h3:=of_decide_eq_true h2.1;simp only at h3;rw[bC,k.ru hL hs]
  rcases k.to hL hs c with ⟨h1,e1⟩|⟨h1,i,e1,hi⟩
  · rw[e1,if_neg (by decide)];split
    · show (j:Int)≤j+2;omega
    · rename_i hn;rw[if_neg hn] at hj
      show (j:Int)≤b.1+2
      omega
  · rw[e1,if_pos (by omega),Int.toNat_natCast]
    rcases Bc hr ha hm c with q|⟨h',q1,q2,q3⟩
    · exact absurd q h1
    · refine wL k hL hr ha l i (j+1) _ _ h' hi q1 ?_
      by_cases hacc:0≤bK ss (cR ss c T)
      · rw[if_pos hacc];omega
      · rw[if_neg hacc];have q4:=q3.resolve_left hacc
        by_cases ht:0≤bK ss T
        · rw[if_pos ht] at q4;rw[if_pos ht]
          show ((j+1:Nat):Int)≤(j:Int)+h'
          omega
        · rw[if_neg ht] at q4 hj;rw[if_neg ht];omega
end
end Go.Proofs.YtedocgkapmeceaaGreatDoor
namespace Go.Proofs.YtedocgkapmeceaaGreatDoor
open Go
set_option maxRecDepth 100000
def BU:List By:=[[91,32,92,116,92,114,93,43],[92,110],[91,97,45,122,65,45,90,95,93,91,97,45,122,65,45,90,48,45,57,95,93,42],[91,48,45,57,93,43,40,92,46,91,48,45,57,93,43,41,63,40,91,101,69,93,91,92,43,92,45,93,63,91,48,45,57,93,43,41,63],[47,47,91,94,92,110,93,42],[47,92,42],[34],[91,92,40,92,91,123,93],[91,92,41,92,93,125,93],[91,92,43,92,45,92,42,47,37,60,62,33,61,44,59,58,92,46,93,124,61,61,124,33,61,124,60,61,124,62,61,124,38,38,124,92,124,92,124,124,92,45,62]]
def ye:List b6:=[⟨2,0,[],0⟩,⟨0,0,[2,0],0⟩,⟨1,4294976000,[1],0⟩,⟨2,0,[],1⟩,⟨1,1024,[3],0⟩,⟨2,0,[],2⟩,⟨0,0,[7,5],0⟩,⟨1,10633823849912963253799171395480977408,[6],0⟩,⟨1,10633823849912963253511222494305976320,[6],0⟩,⟨2,0,[],3⟩,⟨0,0,[11,9],0⟩,⟨1,287948901175001088,[10],0⟩,⟨1,43980465111040,[11],0⟩,⟨0,0,[12,11],0⟩,⟨1,2535301201046754613352112062464,[13],0⟩,⟨0,0,[14,9],0⟩,⟨0,0,[17,15],0⟩,⟨1,287948901175001088,[16],0⟩,⟨1,70368744177664,[17],0⟩,⟨0,0,[18,15],0⟩,⟨0,0,[21,19],0⟩,⟨1,287948901175001088,[20],0⟩,⟨2,0,[],4⟩,⟨0,0,[24,22],0⟩,⟨1,115792089237316195423570985008687907853269984665640564039457584007913129638911,[23],0⟩,⟨1,140737488355328,[23],0⟩,⟨1,140737488355328,[25],0⟩,⟨2,0,[],5⟩,⟨1,4398046511104,[27],0⟩,⟨1,140737488355328,[28],0⟩,⟨2,0,[],6⟩,⟨1,17179869184,[30],0⟩,⟨2,0,[],7⟩,⟨1,10633823968755207061801218131552632832,[32],0⟩,⟨2,0,[],8⟩,⟨1,42535295875020828247204870327187275776,[34],0⟩,⟨2,0,[],9⟩,⟨1,8935418883662151680,[36],0⟩,⟨1,2305843009213693952,[36],0⟩,⟨1,2305843009213693952,[38],0⟩,⟨1,2305843009213693952,[36],0⟩,⟨1,8589934592,[40],0⟩,⟨1,2305843009213693952,[36],0⟩,⟨1,1152921504606846976,[42],0⟩,⟨1,2305843009213693952,[36],0⟩,⟨1,4611686018427387904,[44],0⟩,⟨1,274877906944,[36],0⟩,⟨1,274877906944,[46],0⟩,⟨1,21267647932558653966460912964485513216,[36],0⟩,⟨1,21267647932558653966460912964485513216,[48],0⟩,⟨1,4611686018427387904,[36],0⟩,⟨1,35184372088832,[50],0⟩,⟨0,0,[37,39,41,43,45,47,49,51],0⟩,⟨0,0,[2,4,8,21,26,29,31,33,35,52],0⟩]
theorem L7:fj BU= .inr (ye,53):=rfl
def Jx:List (List Nat×Nat):=[([2,4,8,21,26,29,31,33,35,37,39,41,43,45,47,49,51],0),([0,2],0),([3],0),([36,40],0),([30],0),([36],0),([46],1),([32],0),([34],0),([36,50],0),([25,28,36],0),([9,14,18,21],0),([36,42],0),([36,38],0),([36,44],0),([5,7],0),([48],1),([27],0),([22,24],0),([17],1),([11,12],1),([9,14,17],0),([11],2),([9,11],0)]
def Lo:List UInt8:=[0,0,0,0,0,0,0,0,0,9,10,0,0,9,0,0,0,0,0,0,0,0,0,0,0,0,0,0,0,0,0,0,9,33,34,0,0,37,38,0,40,41,42,43,37,45,46,47,48,48,48,48,48,48,48,48,48,48,37,37,60,61,62,0,0,65,65,65,65,69,65,65,65,65,65,65,65,65,65,65,65,65,65,65,65,65,65,65,65,65,65,40,0,41,0,65,0,65,65,65,65,69,65,65,65,65,65,65,65,65,65,65,65,65,65,65,65,65,65,65,65,65,65,40,124,41,0,0,0,0,0,0,0,0,0,0,0,0,0,0,0,0,0,0,0,0,0,0,0,0,0,0,0,0,0,0,0,0,0,0,0,0,0,0,0,0,0,0,0,0,0,0,0,0,0,0,0,0,0,0,0,0,0,0,0,0,0,0,0,0,0,0,0,0,0,0,0,0,0,0,0,0,0,0,0,0,0,0,0,0,0,0,0,0,0,0,0,0,0,0,0,0,0,0,0,0,0,0,0,0,0,0,0,0,0,0,0,0,0,0,0,0,0,0,0,0,0,0,0,0,0,0,0,0,0,0]
def Ih:List UInt8:=[0,9,10,33,34,37,38,40,41,42,43,45,46,47,48,60,61,62,65,69,124]
def BT:List By:=[[91,94,34,92,92,92,110,93,43],[92,92,91,110,114,116,34,92,92,48,93],[34],[92,110]]
def yd:List b6:=[⟨2,0,[],0⟩,⟨0,0,[2,0],0⟩,⟨1,115792089237316195423570985008687907853269984665635612279300442486796353272831,[1],0⟩,⟨2,0,[],1⟩,⟨1,105144016337090416619545142419783680,[3],0⟩,⟨1,4951760157141521099596496896,[4],0⟩,⟨2,0,[],2⟩,⟨1,17179869184,[6],0⟩,⟨2,0,[],3⟩,⟨1,1024,[8],0⟩,⟨0,0,[2,5,7,9],0⟩]
theorem Hi:fj BT= .inr (yd,10):=rfl
def IA:List (List Nat×Nat):=[([2,5,7,9],0),([0,2],0),([8],0),([6],0),([4],1),([3],0)]
def Ln:List UInt8:=[0,0,0,0,0,0,0,0,0,0,10,0,0,0,0,0,0,0,0,0,0,0,0,0,0,0,0,0,0,0,0,0,0,0,34,0,0,0,0,0,0,0,0,0,0,0,0,0,48,0,0,0,0,0,0,0,0,0,0,0,0,0,0,0,0,0,0,0,0,0,0,0,0,0,0,0,0,0,0,0,0,0,0,0,0,0,0,0,0,0,0,0,92,0,0,0,0,0,0,0,0,0,0,0,0,0,0,0,0,0,48,0,0,0,48,0,48,0,0,0,0,0,0,0,0,0,0,0,0,0,0,0,0,0,0,0,0,0,0,0,0,0,0,0,0,0,0,0,0,0,0,0,0,0,0,0,0,0,0,0,0,0,0,0,0,0,0,0,0,0,0,0,0,0,0,0,0,0,0,0,0,0,0,0,0,0,0,0,0,0,0,0,0,0,0,0,0,0,0,0,0,0,0,0,0,0,0,0,0,0,0,0,0,0,0,0,0,0,0,0,0,0,0,0,0,0,0,0,0,0,0,0,0,0,0,0,0,0,0,0,0,0,0,0,0,0,0,0,0,0,0,0,0,0,0,0]
def Ig:List UInt8:=[0,10,34,48,92]
def BS:List By:=[[47,92,42],[92,42,47],[91,94,92,42,47,93,43],[91,92,42,47,93]]
def yb:List b6:=[⟨2,0,[],0⟩,⟨1,4398046511104,[0],0⟩,⟨1,140737488355328,[1],0⟩,⟨2,0,[],1⟩,⟨1,140737488355328,[3],0⟩,⟨1,4398046511104,[4],0⟩,⟨2,0,[],2⟩,⟨0,0,[8,6],0⟩,⟨1,115792089237316195423570985008687907853269984665640564039457583862777594773503,[7],0⟩,⟨2,0,[],3⟩,⟨1,145135534866432,[9],0⟩,⟨0,0,[2,5,8,10],0⟩]
theorem L6:fj BS= .inr (yb,11):=rfl
def uR:List (List Nat×Nat):=[([2,5,8,10],0),([6,8],0),([4,9],0),([1,9],0),([3],0),([0],0)]
def Lm:List UInt8:=[0,0,0,0,0,0,0,0,0,0,0,0,0,0,0,0,0,0,0,0,0,0,0,0,0,0,0,0,0,0,0,0,0,0,0,0,0,0,0,0,0,0,42,0,0,0,0,47,0,0,0,0,0,0,0,0,0,0,0,0,0,0,0,0,0,0,0,0,0,0,0,0,0,0,0,0,0,0,0,0,0,0,0,0,0,0,0,0,0,0,0,0,0,0,0,0,0,0,0,0,0,0,0,0,0,0,0,0,0,0,0,0,0,0,0,0,0,0,0,0,0,0,0,0,0,0,0,0,0,0,0,0,0,0,0,0,0,0,0,0,0,0,0,0,0,0,0,0,0,0,0,0,0,0,0,0,0,0,0,0,0,0,0,0,0,0,0,0,0,0,0,0,0,0,0,0,0,0,0,0,0,0,0,0,0,0,0,0,0,0,0,0,0,0,0,0,0,0,0,0,0,0,0,0,0,0,0,0,0,0,0,0,0,0,0,0,0,0,0,0,0,0,0,0,0,0,0,0,0,0,0,0,0,0,0,0,0,0,0,0,0,0,0,0,0,0,0,0,0,0,0,0,0,0,0,0]
def Ie:List UInt8:=[0,42,47]
theorem KP:iO ye Lo Ih=true:=by decide +kernel
theorem KS:oZ ye Jx Ih=true:=by decide +kernel
theorem KM:yO Jx (cH ye 53)=some 0∧cH ye 53≠[]∧¬0≤bK ye (cH ye 53):=by decide +kernel
theorem KO:iO yd Ln Ig=true:=by decide +kernel
theorem KR:oZ yd IA Ig=true:=by decide +kernel
theorem KL:yO IA (cH yd 10)=some 0∧cH yd 10≠[]∧¬0≤bK yd (cH yd 10):=by decide +kernel
theorem KN:iO yb Lm Ie=true:=by decide +kernel
theorem KQ:oZ yb uR Ie=true:=by decide +kernel
theorem KK:yO uR (cH yb 11)=some 0∧cH yb 11≠[]∧¬0≤bK yb (cH yb 11):=by decide +kernel
end Go.Proofs.YtedocgkapmeceaaGreatDoor
