/- What the proof of the statement leans on (part 28). -/
import Derived.Lib.SpaceU
import Derived.Test.YtmehdcdbeafljaaGreatDoorQza

namespace Go.Proofs.YtmehdcdbeafljaaGreatDoor
open Go
def Je (l:By):Nat:=(Lib.decodeN l.length (l.getD 0 0).toNat (l.getD 1 0).toNat (l.getD 2 0).toNat (l.getD 3 0).toNat).1
theorem wK (l:By):cW l<=4:=by
 unfold cW Lib.decodeN
 repeat' split
 all_goals simp
theorem Fh {l:By}{n:Nat}(h:cW l=n) (h2:2<=n) (hl:n<=l.length):cW (l.take n)=n/\Je (l.take n)=Je l:=by
 have g:∀i,i<n->(l.take n).getD i 0=l.getD i 0:=fun i hi=>by rw[List.getD_eq_getElem?_getD,List.getD_eq_getElem?_getD,List.getElem?_take_of_lt hi]
 have hlen:(l.take n).length=n:=by rw[List.length_take];omega
 have h4:=wK l;unfold cW Je at *;rw[hlen,g 0 (by omega),g 1 (by omega)];have q:n=2\/n=3\/n=4:=by omega
 rcases q with rfl|rfl|rfl
 · unfold Lib.decodeN at *
   repeat' split at h
   all_goals first|(exfalso;simp only at h;omega)|skip
   all_goals (rw[if_neg (by assumption),if_pos (by omega),if_pos (by assumption)];refine⟨rfl,?_⟩;repeat' split;all_goals first|rfl|(exfalso;omega))
 · rw[g 2 (by omega)];unfold Lib.decodeN at *
   repeat' split at h
   all_goals first|(exfalso;simp only at h;omega)|skip
   all_goals (rw[if_neg (by assumption),if_neg (by omega),if_pos (by omega),if_pos (by assumption)];refine⟨rfl,?_⟩;repeat' split;all_goals first|rfl|(exfalso;omega))
 · rw[g 2 (by omega),g 3 (by omega)];unfold Lib.decodeN at *
   repeat' split at h
   all_goals first|(exfalso;simp only at h;omega)|skip
   all_goals (rw[if_neg (by assumption),if_neg (by omega),if_neg (by omega),if_pos (by omega),if_pos (by assumption)];refine⟨rfl,?_⟩;repeat' split;all_goals first|rfl|(exfalso;omega))
theorem DM {l:By}{n:Nat}(h:cW (l.take n)=n) (h2:2<=n) (hl:n<=l.length):cW l=n:=by
 have g:∀i,i<n->(l.take n).getD i 0=l.getD i 0:=fun i hi=>by rw[List.getD_eq_getElem?_getD,List.getD_eq_getElem?_getD,List.getElem?_take_of_lt hi]
 have hlen:(l.take n).length=n:=by rw[List.length_take];omega
 have h4:=wK (l.take n);have q:n=2\/n=3\/n=4:=by omega
 unfold cW at *;rw[hlen,g 0 (by omega),g 1 (by omega)] at h
 rcases q with rfl|rfl|rfl
 · unfold Lib.decodeN at *
   repeat' split at h
   all_goals first|(exfalso;simp only at h;omega)|skip
   all_goals (rw[if_neg (by assumption),if_pos (by omega),if_pos (by assumption)])
 · rw[g 2 (by omega)] at h;unfold Lib.decodeN at *
   repeat' split at h
   all_goals first|(exfalso;simp only at h;omega)|skip
   all_goals (rw[if_neg (by assumption),if_neg (by omega),if_pos (by omega),if_pos (by assumption)])
 · rw[g 2 (by omega),g 3 (by omega)] at h;unfold Lib.decodeN at *
   repeat' split at h
   all_goals first|(exfalso;simp only at h;omega)|skip
   all_goals (rw[if_neg (by assumption),if_neg (by omega),if_neg (by omega),if_pos (by omega),if_pos (by assumption)])
end Go.Proofs.YtmehdcdbeafljaaGreatDoor
namespace Go.Proofs.YtmehdcdbeafljaaGreatDoor
open Go
set_option maxRecDepth 100000
section
variable {ss:List bK}{tab reps:List UInt8}{T F U:List Nat}{l r w x:By}{n:Int}{c:UInt8}{st:gC}
theorem KN:yL.all (fun p=>p.1 ==T0 ||(p.1 ==[0,2] ||(p.1 ==[22,24] ||([32,9,10,13]:By).all fun c=>(bg cH c p.1).isEmpty)))=true:=by decide +kernel
theorem kR {ss:List bK}{H:List (List Nat×Nat)}(hS:wj ss (H.map (·.1))):∀(w:By) (T:List Nat),T∈H.map (·.1)->cX ss T w=[]\/cX ss T w∈H.map (·.1)
 | [],_,h=>.inr h
 |c::w,T,h=>by
  rw[cX]
  rcases hS T h c with k|k
  · left;rw[List.length_eq_zero_iff.1 k,iZ]
  · exact kR hS w _ k
theorem zX:wj cH (yL.map (·.1)):=qa rV IS
theorem wG:wj dh (EJ.map (·.1)):=qa A5 IQ
theorem wF:wj eE (pP.map (·.1)):=qa Gx IP
abbrev T2:List Nat:=cu eE 11
theorem jz:T0∈yL.map (·.1)/\T1∈EJ.map (·.1)/\T2∈pP.map (·.1):=by decide +kernel
theorem pE:(yL.all fun p=>Ai.all fun r=> !(bg cH r p.1 ==T0))=true:=by decide +kernel
theorem As:(EJ.all fun p=>Ah.all fun r=> !(bg dh r p.1 ==T1))=true:=by decide +kernel
theorem FD:(pP.all fun p=>CZ.all fun r=> !(bg eE r p.1 ==T2))=true:=by decide +kernel
theorem me (hr:fU ss tab reps=true){q:List Nat->Bool}(h:(reps.all fun r=>q (bg ss r T))=true) (c:UInt8):q (bg ss c T)=true:=by
 obtain⟨r,hrm,hx⟩:=Dk hr c;rw[wC hx];exact List.all_eq_true.1 h r hrm
theorem iT {H:List (List Nat×Nat)}(hr:fU ss tab reps=true) (hS:wj ss (H.map (·.1))) (hb:(H.all fun p=>reps.all fun r=> !(bg ss r p.1 ==F))=true) (hF:F∈H.map (·.1)) (hF0:F≠[]) :
 ∀(w:By),w≠[]->cX ss F w≠F:=by
 have key:∀(w:By) (T:List Nat),T∈H.map (·.1)->w≠[]->cX ss T w≠F:=by
  intro w
  induction w with
  |nil=>intro T _ h;exact absurd rfl h
  |cons c w ih =>
   intro T hT _;rw[cX]
   have h1:bg ss c T≠F:=by
    obtain⟨p,hp,rfl⟩:=List.mem_map.1 hT;have:=me hr (q:=fun U=> !(U ==F)) (List.all_eq_true.1 hb p hp) c;simpa using this
   cases w with
   |nil=>exact h1
   |cons d w =>
    rcases hS T hT c with k|k
    · rw[List.length_eq_zero_iff.1 k,iZ];exact fun e=>hF0 e.symm
    · exact ih _ k (by simp)
 exact fun w hw=>key w F hF hw
theorem qD {ss:List bK}:∀(l:By) (T:List Nat) (k:Nat) (b:Int×Int) (n:Nat) (r:Int),ck ss l T k b=((n:Int),r)->((n:Int),r)=b\/(k<=n/\n-k<=l.length/\aJ ss (cX ss T (l.take (n-k)))=r/\0<=r)
 |l,T,k,b,n,r,h=>by
  by_cases hT:T.length=0
  · rw[gj hT] at h;exact .inl h.symm
  · cases l with
    |nil =>
     rw[ck,if_neg hT] at h
     by_cases ha:0<=aJ ss T
     · simp only[if_pos ha,Prod.mk.injEq] at h;obtain⟨h1,h2⟩:=h
       right
       have:k=n:=by omega
       subst this;exact⟨Nat.le_refl _,by simp,by rw[Nat.sub_self,List.take_zero];exact h2,by rw[<-h2];exact ha⟩
     · simp only[if_neg ha] at h;exact .inl h.symm
    |cons c l =>
     rw[ck,if_neg hT] at h
     rcases qD l _ _ _ n r h with q|⟨q1,q2,q3,q4⟩
     · by_cases ha:0<=aJ ss T
       · rw[if_pos ha,Prod.mk.injEq] at q;obtain⟨h1,h2⟩:=q
         right
         have:k=n:=by omega
         subst this;exact⟨Nat.le_refl _,by simp,by rw[Nat.sub_self,List.take_zero];exact h2.symm,by rw[h2];exact ha⟩
       · rw[if_neg ha] at q;exact .inl q
     · right
       refine⟨by omega,by rw[List.length_cons];omega,?_,q4⟩;rw[show n-k=(n-(k+1))+1 by omega,List.take_succ_cons,cX];exact q3
theorem ue {ss:List bK}:∀(l:By) (T:List Nat) (k:Nat) (b:Int×Int) (p:Nat),p<=l.length->0<=aJ ss (cX ss T (l.take p))->T≠[]->(∀i,i<=p->cX ss T (l.take i)≠[])->((k+p:Nat):Int)<=(ck ss l T k b).1
 |l,T,k,b,p,hp,ha,hT,hn=>by
  have hT':¬T.length=0:=fun e=>hT (List.length_eq_zero_iff.1 e)
  have keep:∀(l:By) (T:List Nat) (k:Nat) (b:Int×Int),b.1<=(k:Int)->b.1<=(ck ss l T k b).1:=by
   intro l
   induction l with
   |nil =>
    intro T k b hb
    by_cases h0:T.length=0
    · rw[gj h0];exact Int.le_refl _
    · rw[ck,if_neg h0];split
      · exact hb
      · exact Int.le_refl _
   |cons c l ihl =>
    intro T k b hb
    by_cases h0:T.length=0
    · rw[gj h0];exact Int.le_refl _
    · rw[ck,if_neg h0];split
      · refine Int.le_trans hb (ihl _ (k+1) ((k:Int),aJ ss T) ?_)
        show (k:Int)<=((k+1:Nat):Int);omega
      · exact ihl _ (k+1) b (by omega)
  cases p with
  |zero =>
   rw[List.take_zero] at ha;have ha:0<=aJ ss T:=ha;cases l with
   |nil=>rw[ck,if_neg hT'];simp only[if_pos ha];show ((k+0:Nat):Int)<=k;omega
   |cons c l =>
    rw[ck,if_neg hT',if_pos ha];refine Int.le_trans ?_ (keep _ _ (k+1) ((k:Int),aJ ss T) (by show (k:Int)<=((k+1:Nat):Int);omega))
    show ((k+0:Nat):Int)<=k;omega
  |succ p =>
   cases l with
   |nil=>exact absurd hp (by simp)
   |cons c l =>
    rw[ck,if_neg hT',show k+(p+1)=k+1+p by omega];rw[List.take_succ_cons,cX] at ha;refine ue l _ _ _ p (by simpa using hp) ha ?_ (fun i hi=>?_)
    · have:=hn 1 (by omega);rw[List.take_succ_cons,List.take_zero] at this;exact this
    · have:=hn (i+1) (by omega);rw[List.take_succ_cons,cX] at this;exact this
theorem mD {n:Nat}{r:Int}{p:Nat}(h:ck ss l T 0 (0,-1)=((n:Int),r)) (hp:p<=l.length) (hn:n<p):¬0<=aJ ss (cX ss T (l.take p)):=by
 intro ha
 have h0:aJ ss []<0:=by
  unfold aJ;split
  · decide
  · exact(by decide:(-1:Int)<0)
 have hne:∀i,i<=p->cX ss T (l.take i)≠[]:=fun i hi e=>by
  have:l.take p=l.take i++(l.take p).drop i:=by
   have:=(List.take_append_drop i (l.take p)).symm
   rwa [List.take_take,Nat.min_eq_left hi] at this
  rw[this,kf,e,iZ] at ha;omega
 have:=ue l T 0 (0,-1) p hp ha (by have:=hne 0 (Nat.zero_le _);rwa [List.take_zero] at this) hne;rw[h] at this;have this:((0+p:Nat):Int)<=n:=this;omega
theorem take_one (w:By) (c:UInt8) (r:By):(w++c::r).take (w.length+1)=w++[c]:=by
 rw[List.take_append,List.take_of_length_le (by omega),show w.length+1-w.length=1 by omega];rfl
theorem Dq (ss:List bK):aJ ss []= -1:=by unfold aJ;split<;>rfl
theorem uo (l:By):cV 0 l=ck cH l T0 0 (0,-1):=by
 show cP cH 53 l=_
 unfold cP;rw[if_neg (by decide)]
theorem wY (l:By):cV 1 l=ck dh l T1 0 (0,-1):=by
 show cP dh 10 l=_
 unfold cP;rw[if_neg (by decide)]
theorem AK (l:By):cV 2 l=ck eE l T2 0 (0,-1):=by
 show cP eE 11 l=_
 unfold cP;rw[if_neg (by decide)]
theorem iQ:aJ cH [0,2]=0/\aJ cH [22,24]=4/\aJ cH T0= -1/\aJ dh T1= -1/\aJ eE T2= -1:=by decide +kernel
theorem firsts:T0≠[]/\T1≠[]/\T2≠[]:=by decide +kernel
theorem gF (h0:w≠[]) (h:ck ss (w++r) T 0 (0,-1)=(((w.length:Nat):Int),n)):aJ ss (cX ss T w)=n/\0<=n/\cX ss T w≠[]:=by
 have hl:=List.length_pos_iff.2 h0
 rcases qD _ _ _ _ _ _ h with q|⟨_,_,q,hn⟩
 · simp only[Prod.mk.injEq] at q;omega
 · rw[Nat.sub_zero,List.take_left] at q;exact⟨q,hn,fun e=>by rw[e,Dq] at q;omega⟩
def Ws (x:By):Prop:=x=[]\/∃c x',x=c::x'/\(c=32\/c=9\/c=10\/c=13)
theorem CL (hU:U∈yL.map (·.1)) (h1:U≠T0) (h2:U≠[0,2]) (h3:U≠[22,24]) (hc:c=32\/c=9\/c=10\/c=13):bg cH c U=[]:=by
 obtain⟨p,hp,rfl⟩:=List.mem_map.1 hU;have:=List.all_eq_true.1 KN p hp;simp only[Bool.or_eq_true,beq_iff_eq,h1,h2,h3,false_or] at this;have:=List.all_eq_true.1 this c (by rcases hc with rfl|rfl|rfl|rfl<;>decide);simpa using this
theorem jB (h:cX cH T0 w≠[]):cX cH T0 w∈yL.map (·.1):=(kR zX w T0 jz.1).resolve_left h
theorem Lx (h0:w≠[]) (hn:n≠0/\n≠4) (h:cV 0 (w++r)=(((w.length:Nat):Int),n)) (hx:Ws x):cV 0 (w++x)=(((w.length:Nat):Int),n):=by
 rw[uo] at h;obtain⟨q1,q2,q3⟩:=gF h0 h;refine AL rfl q1 q2 q3 ?_
 rcases hx with rfl|⟨c,x',rfl,hc⟩
 · exact .inl rfl
 · exact .inr ⟨c,x',rfl,CL (jB q3) (iT rV zX pE jz.1 firsts.1 w h0) (fun e=>hn.1 (by rw[e,iQ.1] at q1;exact q1.symm)) (fun e=>hn.2 (by rw[e,iQ.2.1] at q1;exact q1.symm)) hc⟩
theorem Mk:(yL.all fun p=> !(aJ cH p.1 ==4) ||p.1 ==[22,24])=true:=by decide +kernel
theorem Mm:(yL.all fun p=> !(aJ cH p.1 ==0) ||p.1 ==[0,2])=true:=by decide +kernel
theorem qN:Bk [22,24] (fun c=> !(c ==10)) [22,24]=true/\Bk [22,24] (fun c=>c ==10) []=true:=by decide +kernel
theorem Lt (h0:w≠[]) (h:cV 0 (w++r)=(((w.length:Nat):Int),4)):(r=[]\/∃r',r=10::r')/\((x=[]\/∃x',x=10::x')->cV 0 (w++x)=(((w.length:Nat):Int),4)):=by
 rw[uo] at h;obtain⟨q1,q2,q3⟩:=gF h0 h
 have hU:cX cH T0 w=[22,24]:=by
  obtain⟨p,hp,e⟩:=List.mem_map.1 (jB q3);have:=List.all_eq_true.1 Mk p hp;rw[e] at this;simpa [q1] using this
 constructor
 · cases r with
   |nil=>exact .inl rfl
   |cons c r =>
    right
    by_cases hc:c=10
    · exact⟨r,by rw[hc]⟩
    · exfalso;refine mD h (p:=w.length+1) (by simp) (Nat.lt_succ_self _) ?_;have:=take_one w c r;rw[this,kf,hU]
      show 0<=aJ cH (bg cH c [22,24])
      rw[oz qN.1 (by simpa using hc),iQ.2.1];decide
 · intro hx;refine AL rfl q1 q2 q3 ?_;rw[hU]
   rcases hx with rfl|⟨x',rfl⟩
   · exact .inl rfl
   · exact .inr ⟨10,x',rfl,oz qN.2 rfl⟩
theorem Mg (hl:l≠[]) (h:(cV 0 l).1=0) (hx:Ws x):(cV 0 (l.take (cW l)++x)).1=0/\cW (l.take (cW l)++x)=cW l:=by
 have hr:=o8 hl;obtain⟨w,hw⟩:∃w,w=l.take (cW l):=⟨_,rfl⟩
 have hwl:w.length=cW l:=by rw[hw,List.length_take];omega
 have hlw:l=w++l.drop (cW l):=by rw[hw,List.take_append_drop]
 rw[<-hw];constructor
 · rw[uo] at h ⊢
   have hm:∀p,p<=l.length->0<p->¬0<=aJ cH (cX cH T0 (l.take p)):=by
    obtain⟨k,r,e⟩:∃k r,ck cH l T0 0 (0,-1)=(k,r):=⟨_,_,rfl⟩
    rw[e] at h;have h:k=0:=h;subst h;exact fun p hp h0=>mD (n:=0) e hp h0
   have hnn:0<=(ck cH (w++x) T0 0 (0,-1)).1:=by have:=(pI 0 (w++x)).1;rwa [uo] at this
   obtain⟨k,hk⟩:=Int.eq_ofNat_of_zero_le hnn;obtain⟨r,hr'⟩:∃r,ck cH (w++x) T0 0 (0,-1)=(((k:Nat):Int),r):=⟨_,Prod.ext hk rfl⟩
   rw[hr']
   rcases qD _ _ _ _ _ _ hr' with q|⟨_,q2,q3,q4⟩
   · exact congrArg Prod.fst q
   · exfalso;rw[Nat.sub_zero] at q2 q3
     by_cases hk0:k=0
     · subst hk0;rw[List.take_zero] at q3;have q3:aJ cH T0=r:=q3;rw[iQ.2.2.1] at q3;omega
     · rcases Nat.lt_or_ge w.length k with hkw|hkw
       · rcases hx with rfl|⟨c,x',rfl,hc⟩
         · rw[List.append_nil] at q2;omega
         · have e:(w++c::x').take k=w++(c::x').take (k-w.length):=by rw[List.take_append,List.take_of_length_le (by omega)]
           obtain⟨j,hj⟩:∃j,k-w.length=j+1:=⟨k-w.length-1,by omega⟩
           rw[e,hj,List.take_succ_cons,kf,cX] at q3
           have hu:cX cH T0 w=[]\/bg cH c (cX cH T0 w)=[]:=by
            by_cases hu:cX cH T0 w=[]
            · exact .inl hu
            · right
              have hno:=hm w.length (by rw[hwl];exact hr.2) (by omega);rw[show l.take w.length=w by rw[hwl,hw]] at hno;refine CL (jB hu) (iT rV zX pE jz.1 firsts.1 w (fun e=>by rw[e] at hwl;simp at hwl;omega)) (fun e=>?_) (fun e=>?_) hc
              · rw[e,iQ.1] at hno;exact hno (by decide)
              · rw[e,iQ.2.1] at hno;exact hno (by decide)
           have:aJ cH []=r:=by
            rcases hu with hu|hu
            · rwa [hu,iR,iZ] at q3
            · rwa [hu,iZ] at q3
           rw[Dq] at this;omega
       · refine hm k (by rw[hwl] at hkw;omega) (by omega) ?_;have e:(w++x).take k=l.take k:=by rw[List.take_append_of_le_length hkw,hw,List.take_take,Nat.min_eq_left (by omega)]
         rw[<-e,q3];exact q4
 · by_cases h2:2<=cW l
   · refine DM (n:=cW l) ?_ h2 (by rw[List.length_append];omega);rw[List.take_append_of_le_length (by omega),show w.take (cW l)=w by rw[<-hwl,List.take_length],hw];exact(Fh rfl h2 hr.2).1
   · have h1:cW l=1:=by omega
     rw[h1] at hwl ⊢;obtain⟨b,rfl⟩:=List.length_eq_one_iff.1 hwl
     have hb:(([b]++x).getD 1 0).toNat<128:=by
      rcases hx with rfl|⟨c,x',rfl,hc⟩
      · show (0:UInt8).toNat<128;decide
      · show c.toNat<128
        rcases hc with rfl|rfl|rfl|rfl<;>decide
     unfold cW Lib.decodeN
     repeat' split
     all_goals first|rfl|(exfalso;omega)
def K9 (r x:By):Prop:=x=[]\/∃c r' x',r=c::r'/\x=c::x'
theorem MP:(EJ.all fun p=>p.1 ==T1 ||Ah.all fun r=>(bg dh r p.1).isEmpty ||decide (0<=aJ dh (bg dh r p.1)))=true:=by decide +kernel
theorem MO:(pP.all fun p=>p.1 ==T2 ||CZ.all fun r=>(bg eE r p.1).isEmpty ||decide (0<=aJ eE (bg eE r p.1)))=true:=by decide +kernel
theorem JQ {H:List (List Nat×Nat)}(hr:fU ss tab reps=true) (hS:wj ss (H.map (·.1))) (hb:(H.all fun p=>reps.all fun r=> !(bg ss r p.1 ==F))=true) (hF:F∈H.map (·.1)) (hF0:F≠[])
 (ho:(H.all fun p=>p.1 ==F ||reps.all fun r=>(bg ss r p.1).isEmpty ||decide (0<=aJ ss (bg ss r p.1)))=true) (h0:w≠[]) (h:ck ss (w++r) F 0 (0,-1)=(((w.length:Nat):Int),n)) (hx:K9 r x) :
 ck ss (w++x) F 0 (0,-1)=(((w.length:Nat):Int),n):=by
 obtain⟨q1,q2,q3⟩:=gF h0 h;have hnf:=iT hr hS hb hF hF0 w h0;rw[kq (by rw[q1];exact q2) q3 w F 0 _ x rfl ?_,q1,Nat.zero_add]
 rcases hx with rfl|⟨c,r',x',rfl,rfl⟩
 · exact .inl rfl
 · refine .inr ⟨c,x',rfl,?_⟩;obtain⟨p,hp,e⟩:=List.mem_map.1 ((kR hS w F hF).resolve_left q3);have h1:=List.all_eq_true.1 ho p hp;rw[Bool.or_eq_true] at h1
   rcases h1 with h1|h1
   · exact absurd (e.symm.trans (by simpa using h1)) hnf
   · have h2:=me hr (q:=fun U=>U.isEmpty ||decide (0<=aJ ss U)) h1 c;rw[e,Bool.or_eq_true] at h2
     rcases h2 with h2|h2
     · simpa using h2
     · exfalso;refine mD h (p:=w.length+1) (by simp) (Nat.lt_succ_self _) ?_;have:=take_one w c r';rw[this,kf];exact of_decide_eq_true h2
theorem Lv (h0:w≠[]) (h:cV 1 (w++r)=(((w.length:Nat):Int),n)) (hx:K9 r x):cV 1 (w++x)=(((w.length:Nat):Int),n):=by
 rw[wY] at h ⊢;exact JQ A5 wG As jz.2.1 firsts.2.1 MP h0 h hx
theorem Lu (h0:w≠[]) (h:cV 2 (w++r)=(((w.length:Nat):Int),n)) (hx:K9 r x):cV 2 (w++x)=(((w.length:Nat):Int),n):=by
 rw[AK] at h ⊢;exact JQ Gx wF FD jz.2.2 firsts.2.2 MO h0 h hx
theorem C4 (hF:F≠[]) (ha:0<=aJ ss (bg ss c F)) (h:ck ss (c::l) F 0 (0,-1)=(0,n)):False :=
 mD (n:=0) (p:=1) h (by simp) (by decide) (by rw[List.take_succ_cons,List.take_zero];exact ha)
theorem Me (hl:l≠[]):(cV 2 l).1≠0:=by
 intro h;cases l with
 |nil=>exact hl rfl
 |cons c l =>
  rw[AK] at h;have key:(List.range 256).all (fun n=>decide (0<=aJ eE (bg eE (UInt8.ofNat n) T2)))=true:=by decide +kernel
  have:=of_decide_eq_true (we (p:=fun c=>decide (0<=aJ eE (bg eE c T2))) key c);exact C4 firsts.2.2 this (Prod.ext h rfl)
theorem Mf (hl:l≠[]) (h:(cV 1 l).1=0) (hx:K9 (l.drop (cW l)) x):(cV 1 (l.take (cW l)++x)).1=0/\cW (l.take (cW l)++x)=cW l:=by
 cases l with
 |nil=>exact absurd rfl hl
 |cons c l =>
  rw[wY] at h;have key:(List.range 256).all (fun n=>decide (0<=aJ dh (bg dh (UInt8.ofNat n) T1)) ||decide (UInt8.ofNat n=92))=true:=by decide +kernel
  have hc:=we (p:=fun c=>decide (0<=aJ dh (bg dh c T1)) ||decide (c=92)) key c;rw[Bool.or_eq_true] at hc
  rcases hc with hc|hc
  · exact(C4 firsts.2.1 (of_decide_eq_true hc) (Prod.ext h rfl)).elim
  · obtain rfl:=of_decide_eq_true hc;have hr:∀y:By,cW (92::y)=1:=fun y=>by unfold cW Lib.decodeN;rw[if_pos (by show (92:UInt8).toNat<128;decide)]
    rw[hr] at hx ⊢;rw[show (92::l:By).take 1=[92] from rfl,show ([92]:By)++x=92::x from rfl,hr];refine⟨?_,rfl⟩;have k1:bg dh 92 T1=[4]/\aJ dh [4]= -1:=by decide +kernel
    have k2:(List.range 256).all (fun n=>decide (0<=aJ dh (bg dh (UInt8.ofNat n) [4])) ||decide (bg dh (UInt8.ofNat n) [4]=[]))=true:=by decide +kernel
    have f1:¬T1.length=0:=fun e=>firsts.2.1 (List.length_eq_zero_iff.1 e)
    have f2:¬([4]:List Nat).length=0:=by decide
    have f3:¬0<=aJ dh T1:=by rw[iQ.2.2.2.1];decide
    have f4:¬0<=aJ dh [4]:=by rw[k1.2];decide
    rw[wY,ck,if_neg f1,if_neg f3,k1.1]
    rcases hx with rfl|⟨d,l',x',hl',rfl⟩
    · rw[ck,if_neg f2];simp only[if_neg f4]
    · have hl':l=d::l':=hl';subst hl';have hd:=we (p:=fun d=>decide (0<=aJ dh (bg dh d [4])) ||decide (bg dh d [4]=[])) k2 d;rw[Bool.or_eq_true] at hd;rw[ck,if_neg f2,if_neg f4]
      rcases hd with hd|hd
      · exfalso;refine mD (n:=0) (p:=2) (Prod.ext h rfl:ck dh (92::d::l') T1 0 (0,-1)=(((0:Nat):Int),_)) (by simp) (by decide) ?_
        show 0<=aJ dh (bg dh d (bg dh 92 T1))
        rw[k1.1];exact of_decide_eq_true hd
      · rw[of_decide_eq_true hd,gj (by rfl)]
def Hi (k:Int):Prop:=k=1\/k=2\/k=11
instance (k:Int):Decidable (Hi k):=inferInstanceAs (Decidable (_\/_))
def oQ:Nat->By->gC->List Sh×gC
 | 0,_,st=>([],st)
 |n+1,l,st=>if l=[] then ([],st) else
  (if Hi (dB l st.1) then (oQ n (l.drop (bT l st.1)) (cR l st)).1 else (dB l st.1,l.take (bT l st.1))::(oQ n (l.drop (bT l st.1)) (cR l st)).1,(oQ n (l.drop (bT l st.1)) (cR l st)).2)
theorem Ac:∀(n k:Nat) (l:By) (st:gC),l.length<=n->l.length<=k->oQ n l st=oQ k l st
 | 0,0,_,_,_,_=>rfl
 | 0,k+1,l,st,h,_=>by
  have:l=[]:=List.length_eq_zero_iff.1 (by omega);rw[oQ,oQ,if_pos this]
 |n+1,0,l,st,_,h=>by
  have:l=[]:=List.length_eq_zero_iff.1 (by omega);rw[oQ,oQ,if_pos this]
 |n+1,k+1,l,st,h1,h2=>by
  rw[oQ,oQ]
  by_cases hl:l=[]
  · rw[if_pos hl,if_pos hl]
  · have:=eT hl st.1;rw[if_neg hl,if_neg hl,Ac n k _ _ (by rw[List.length_drop];omega) (by rw[List.length_drop];omega)]
def sg (l:By) (st:gC):List Sh×gC:=oQ l.length l st
theorem xY {k:Int}{st':gC}(h0:w≠[]) (h1:bT (w++x) st.1=w.length) (h2:dB (w++x) st.1=k) (h3:cR (w++x) st=st'):sg (w++x) st=(if Hi k then (sg x st').1 else (k,w)::(sg x st').1,(sg x st').2):=by
 have hp:=List.length_pos_iff.2 h0;obtain⟨m,hm⟩:∃m,(w++x).length=m+1:=⟨(w++x).length-1,by rw[List.length_append];omega⟩
 unfold sg;rw[hm,oQ,if_neg (by simp[h0]),h1,h2,h3,List.drop_left,List.take_left,Ac m x.length x st' (by rw[List.length_append] at hm;omega) (Nat.le_refl _)]
theorem Ja (h0:w≠[]) (h:cV st.1 (w++x)=(((w.length:Nat):Int),n)) :
 sg (w++x) st=(if Hi (if eV st.1 n=3/\de w=true then 4 else eV st.1 n) then (sg x (cN st n)).1 else ((if eV st.1 n=3/\de w=true then 4 else eV st.1 n),w)::(sg x (cN st n)).1,(sg x (cN st n)).2):=by
 obtain⟨h1,h2,h3⟩:=sB (st:=st) h0 h;exact xY h0 h1 h2 h3
theorem ia {st':gC}(h0:w≠[]) (h:cV st.1 (w++x)=(((w.length:Nat):Int),n)) (hk:eV st.1 n=1\/eV st.1 n=2\/eV st.1 n=11) (ha:cN st n=st'):sg (w++x) st=sg x st':=by
 have e:(if eV st.1 n=3/\de w=true then (4:Int) else eV st.1 n)=eV st.1 n:=if_neg (fun c=>by have:=c.1;omega);rw[Ja h0 h,ha,e,if_pos (show Hi _ from hk)]
def zu (c:UInt8):Bool:=c ==32 ||(c ==9 ||c ==13)
theorem uZ:Bk T0 zu [0,2]=true/\Bk [0,2] zu [0,2]=true/\Bk [0,2] (fun c=> !zu c) []=true:=by decide +kernel
theorem Gz {y:By}(hw:w.all zu=true) (hy:y=[]\/∃c y',y=c::y'/\zu c=false):sg (w++y) (0,0)=sg y (0,0):=by
 cases w with
 |nil=>rfl
 |cons c w =>
  rw[List.all_cons,Bool.and_eq_true] at hw;refine ia (n:=0) (by simp) (AL (U:=[0,2]) (by rw[cX,oz uZ.1 hw.1];exact CT uZ.2.1 w hw.2) iQ.1 (by decide) (by decide) ?_) (.inl rfl) rfl
  rcases hy with rfl|⟨c,y',rfl,hc⟩
  · exact .inl rfl
  · exact .inr ⟨c,y',rfl,oz uZ.2.2 (by rw[hc];rfl)⟩
theorem qc (hw:w.all zu=true):sg (w++x) (0,0)=sg x (0,0):=by
 obtain⟨b,y,hb,hy,hx⟩:∃b y,b.all zu=true/\(y=[]\/∃c y',y=c::y'/\zu c=false)/\x=b++y:=by
  refine⟨x.takeWhile zu,x.dropWhile zu,List.all_takeWhile,?_,(List.takeWhile_append_dropWhile).symm⟩;cases q:x.dropWhile zu with
  |nil=>exact .inl rfl
  |cons d r' =>
   refine .inr ⟨d,r',rfl,?_⟩;have:=List.head?_dropWhile_not zu x;rw[q] at this;simpa using this
 subst hx;rw[<-List.append_assoc,Gz (by rw[List.all_append,hw,hb];rfl) hy,Gz hb hy]
theorem sG (x:By):sg (10::x) (0,0)=sg x (0,0) :=
 ia (w:=[10]) (n:=1) (by simp) (AL (U:=[3]) (by decide +kernel) (by decide +kernel) (by decide) (by decide) (mS (by decide +kernel) x)) (.inr (.inl rfl)) rfl
def nH:List By:=[[32],[10],[32,47,47,32,115,111,10],[32,47,42,32,115,111,32,47,42,32,115,111,32,42,47,32,42,47,32],[9,32,10]]
def F9 (T:List Nat) (p:UInt8->Bool) (U:List Nat):Bool:=(List.range 256).all fun n=> !p (UInt8.ofNat n) ||decide (bg eE (UInt8.ofNat n) T=U)
theorem HH {p:UInt8->Bool}(h:F9 T p U=true) (hc:p c=true):bg eE c T=U:=by
 have:=we (p:=fun c=> !p c ||decide (bg eE c T=U)) h c;simpa [hc] using this
theorem B6 (hw:cX eE T2 w=U) (hU:aJ eE U=n) (hn:0<=n) (hU0:U≠[]) (hr:Ends eE U r):cV 2 (w++r)=(((w.length:Nat):Int),n):=by
 rw[AK,kq (by rw[hU];exact hn) hU0 w _ 0 _ r hw hr,hU,Nat.zero_add]
theorem nA (h:F9 U (fun _=>true) []=true) (r:By):Ends eE U r:=by
 cases r with
 |nil=>exact .inl rfl
 |cons c r=>exact .inr ⟨c,r,rfl,HH h rfl⟩
theorem Gf {g:By}(hg:g∈nH) (x:By):sg (g++x) (0,0)=sg x (0,0):=by
 simp only[nH,List.mem_cons,List.not_mem_nil,or_false] at hg
 rcases hg with rfl|rfl|rfl|rfl|rfl
 · exact qc (w:=[32]) rfl
 · exact sG x
 · have e1:sg ([32]++([47,47,32,115,111]++10::x)) (0,0)=sg ([47,47,32,115,111]++10::x) (0,0):=qc rfl
   have e2:sg ([47,47,32,115,111]++10::x) (0,0)=sg (10::x) (0,0) :=
    ia (n:=4) (by simp) (AL (U:=[22,24]) (by decide +kernel) iQ.2.1 (by decide) (by decide) (.inr ⟨10,x,rfl,oz qN.2 rfl⟩)) (.inr (.inr rfl)) rfl
   exact e1.trans (e2.trans (sG x))
 · have k1:cX cH T0 [47,42]=[27]/\aJ cH [27]=5/\Bk [27] (fun _=>true) []=true:=by decide +kernel
   have k2:cX eE T2 [32,115,111,32]=[6,8]/\aJ eE [6,8]=2/\bg eE 47 [6,8]=[]/\bg eE 42 [6,8]=[]/\cX eE T2 [32]=[6,8]:=by decide +kernel
   have k3:cX eE T2 [47,42]=[0]/\aJ eE [0]=0/\F9 [0] (fun _=>true) []=true:=by decide +kernel
   have k4:cX eE T2 [42,47]=[3]/\aJ eE [3]=1/\F9 [3] (fun _=>true) []=true:=by decide +kernel
   have a1:∀y,sg ([32]++y) (0,0)=sg y (0,0):=fun y=>qc rfl
   have a2:∀y,sg ([47,42]++y) (0,0)=sg y (2,1):=fun y=>ia (n:=5) (by simp) (AL k1.1 k1.2.1 (by decide) (by decide) (mS k1.2.2 y)) (.inr (.inr rfl)) rfl
   have a3:∀(d:Int) y,sg ([32,115,111,32]++47::y) (2,d)=sg (47::y) (2,d):=fun d y=>ia (st:=(2,d)) (n:=2) (by simp) (B6 k2.1 k2.2.1 (by decide) (by decide) (.inr ⟨_,_,rfl,k2.2.2.1⟩)) (.inr (.inr rfl)) rfl
   have a4:∀y,sg ([47,42]++y) (2,1)=sg y (2,2):=fun y=>ia (st:=(2,1)) (n:=0) (by simp) (B6 k3.1 k3.2.1 (by decide) (by decide) (nA k3.2.2 y)) (.inr (.inr rfl)) rfl
   have a5:∀y,sg ([32,115,111,32]++42::y) (2,2)=sg (42::y) (2,2):=fun y=>ia (st:=(2,2)) (n:=2) (by simp) (B6 k2.1 k2.2.1 (by decide) (by decide) (.inr ⟨_,_,rfl,k2.2.2.2.1⟩)) (.inr (.inr rfl)) rfl
   have a6:∀y,sg ([42,47]++y) (2,2)=sg y (2,1):=fun y=>ia (st:=(2,2)) (n:=1) (by simp) (B6 k4.1 k4.2.1 (by decide) (by decide) (nA k4.2.2 y)) (.inr (.inr rfl)) rfl
   have a7:∀y,sg ([32]++42::y) (2,1)=sg (42::y) (2,1):=fun y=>ia (st:=(2,1)) (n:=2) (by simp) (B6 k2.2.2.2.2 k2.2.1 (by decide) (by decide) (.inr ⟨_,_,rfl,k2.2.2.2.1⟩)) (.inr (.inr rfl)) rfl
   have a8:∀y,sg ([42,47]++y) (2,1)=sg y (0,0):=fun y=>ia (st:=(2,1)) (n:=1) (by simp) (B6 k4.1 k4.2.1 (by decide) (by decide) (nA k4.2.2 y)) (.inr (.inr rfl)) rfl
   refine(a1 _).trans ((a2 _).trans ((a3 1 _).trans ((a4 _).trans ((a5 _).trans ((a6 _).trans ((a7 _).trans ((a8 _).trans (a1 x))))))))
 · exact(qc (w:=[9,32]) rfl).trans (sG x)
end
end Go.Proofs.YtmehdcdbeafljaaGreatDoor
namespace Go.Proofs.YtmehdcdbeafljaaGreatDoor
open Go
section
variable {s s':PS}
def sd:PS->PS->Prop
 |.ok r,.ok r'=>r.map sE=r'.map sE
 |.bad _,.bad _=>True
 |_,_=>False
theorem sd.fail (h:sd s s') (e e':Int):sd (dx e s) (dx e' s'):=by
 cases s with
 |ok r=>cases s' with
  |ok r'=>exact trivial
  |bad m=>exact h.elim
 |bad m=>cases s' with
  |ok r'=>exact h.elim
  |bad m'=>exact trivial
theorem sd.cases {s s':PS}(h:sd s s'):(∃m m',s= .bad m/\s'= .bad m')\/(s= .ok []/\s'= .ok [])\/∃u u' r r',s= .ok (u::r)/\s'= .ok (u'::r')/\u.1=u'.1/\u.2.1=u'.2.1/\sd (.ok r) (.ok r'):=by
 cases s with
 |bad m=>cases s' with
  |bad m'=>exact .inl ⟨m,m',rfl,rfl⟩
  |ok r'=>exact h.elim
 |ok r=>cases s' with
  |bad m'=>exact h.elim
  |ok r' =>
   right
   have h:r.map sE=r'.map sE:=h;cases r with
   |nil =>
    cases r' with
    |nil=>exact .inl ⟨rfl,rfl⟩
    |cons u' r'=>cases h
   |cons u r =>
    cases r' with
    |nil=>cases h
    |cons u' r' =>
     rw[List.map_cons,List.map_cons,List.cons.injEq] at h;have h1:(u.1,u.2.1)=(u'.1,u'.2.1):=h.1;rw[Prod.mk.injEq] at h1;exact .inr ⟨u,u',r,r',rfl,rfl,h1.1,h1.2,h.2⟩
theorem sd.vU (h:sd s s') (k:Int) (ts:List By):∃o r r',cU k ts s=(o,r)/\cU k ts s'=(o,r')/\sd r r':=by
 rcases h.cases with ⟨m,m',rfl,rfl⟩|⟨rfl,rfl⟩|⟨u,u',r,r',rfl,rfl,h1,h2,h3⟩
 · exact⟨_,_,_,rfl,rfl,trivial⟩
 · exact⟨_,_,_,rfl,rfl,h⟩
 · rw[iw,iw,h1,h2]
   by_cases hq:u'.1=k/\u'.2.1∈ts
   · rw[if_pos hq,if_pos hq];exact⟨_,_,_,rfl,rfl,h3⟩
   · rw[if_neg hq,if_neg hq];exact⟨_,_,_,rfl,rfl,h⟩
theorem sd.D5 (h:sd s s') (e e' k:Int) (t:By):sd (dc e k t s) (dc e' k t s'):=by
 obtain⟨o,r,r',h1,h2,h3⟩:=h.vU k [t];unfold dc;rw[h1,h2];cases o with
 |none=>exact h3.fail e e'
 |some x=>exact h3
theorem sd.name (h:sd s s') (e e':Int):(cY e s).1=(cY e' s').1/\sd (cY e s).2 (cY e' s').2:=by
 rcases h.cases with ⟨m,m',rfl,rfl⟩|⟨rfl,rfl⟩|⟨u,u',r,r',rfl,rfl,h1,h2,h3⟩
 · exact⟨rfl,trivial⟩
 · exact⟨rfl,trivial⟩
 · rw[jf,jf,h1]
   by_cases hq:u'.1=3
   · rw[if_pos hq,if_pos hq];exact⟨h2,h3⟩
   · rw[if_neg hq,if_neg hq];exact⟨rfl,trivial⟩
theorem sd.MN (h:sd s s') (k:Nat):∃o r r',Ap k s=(o,r)/\Ap k s'=(o,r')/\sd r r':=by
 have two:∀(a b t:By),∃o r r',(match cU 4 [a] s with|(some _,s)=>(some t,s)|(none,s)=>match cU 6 [b] s with|(some _,s)=>(some t,s)|(none,s)=>(none,s))=(o,r) /\
  (match cU 4 [a] s' with|(some _,s)=>(some t,s)|(none,s)=>match cU 6 [b] s with|(some _,s)=>(some t,s)|(none,s)=>(none,s))=(o,r')/\sd r r':=fun a b t=>by
  obtain⟨o,r,r',h1,h2,h3⟩:=h.vU 4 [a];rw[h1,h2];cases o with
  |some x=>exact⟨_,_,_,rfl,rfl,h3⟩
  |none =>
   obtain⟨o,q,q',h4,h5,h6⟩:=h3.vU 6 [b];simp only;rw[h4,h5];cases o with
   |some x=>exact⟨_,_,_,rfl,rfl,h6⟩
   |none=>exact⟨_,_,_,rfl,rfl,h6⟩
 unfold Ap;split
 · exact two _ _ _
 · split
   · exact two _ _ _
   · split
     · exact h.vU _ _
     · split
       · exact h.vU _ _
       · exact h.vU _ _
def qV:mV->mV->Prop
 |none,none=>True
 |some (t,r),some (t',r')=>t=t'/\sd r r'
 |_,_=>False
theorem qV.then {a a':mV}{F F':Tr->PS->mV}(h:qV a a') (k:∀t r r',sd r r'->qV (F t r) (F' t r')):qV (dO a F) (dO a' F'):=by
 cases a with
 |none=>cases a' with
  |none=>exact trivial
  |some x=>exact h.elim
 |some x=>cases a' with
  |none=>exact h.elim
  |some x' =>
   obtain⟨t,r⟩:=x;obtain⟨t',r'⟩:=x';obtain⟨rfl,h2⟩:=h;exact k t r r' h2
theorem dH {t:Tr}{r r':PS}(h:sd r r'):qV (some (t,r)) (some (t,r')):=⟨rfl,h⟩
theorem qG (h:sd s s'):s.cZ=s'.cZ/\s.len=s'.len:=by
 rcases h.cases with ⟨m,m',rfl,rfl⟩|⟨rfl,rfl⟩|⟨u,u',r,r',rfl,rfl,h1,h2,h3⟩
 · exact⟨rfl,rfl⟩
 · exact⟨rfl,rfl⟩
 · have h3:r.map sE=r'.map sE:=h3;have:=congrArg List.length h3;rw[List.length_map,List.length_map] at this;exact⟨rfl,by show (u::r).length=(u'::r').length;rw[List.length_cons,List.length_cons,this]⟩
theorem GL {u u':Un}(h1:u.1=u'.1) (h2:u.2.1=u'.2.1):iJ u=iJ u':=by unfold iJ;rw[h1,h2]
theorem Jg (e e':Int):∀(n:Nat) (j:EG) (s s':PS),sd s s'->qV (pM e n j s) (pM e' n j s'):=by
 intro n
 induction n with
 |zero=>intro j s s' _;rw[pM,pM];exact trivial
 |succ n ih =>
  intro j s s' h;cases j with
  |stmt =>
   rw[pM,pM];obtain⟨o,r,r',h1,h2,h3⟩:=h.vU 4 [nD];rw[h1,h2];cases o with
   |some x=>exact ih _ _ _ h3
   |none=>exact ih _ _ _ h3
  |expr =>
   rw[pM,pM];obtain⟨o,r,r',h1,h2,h3⟩:=h.vU 4 [nD];rw[h1,h2];cases o with
   |some x=>exact ih _ _ _ h3
   |none =>
    obtain⟨o,q,q',h4,h5,h6⟩:=h3.vU 4 [xR];simp only;rw[h4,h5];cases o with
    |some x=>exact ih _ _ _ h6
    |none =>
     obtain⟨o,p,p',h7,h8,h9⟩:=h6.vU 4 [zO];simp only;rw[h7,h8];cases o with
     |some x=>exact ih _ _ _ h9
     |none=>exact ih _ _ _ h9
  |lt alone =>
   rw[pM,pM];obtain⟨hn,hs⟩:=h.name e e';rw[hn];refine(ih _ _ _ (hs.D5 e e' 6 [61])).then fun v r r' hr=>?_
   obtain⟨o,q,q',h4,h5,h6⟩:=hr.vU 4 [G5];rw[h4,h5];cases o with
   |some x=>exact(ih _ _ _ h6).then fun w p p' hp=>dH hp
   |none =>
    cases alone with
    |true=>exact dH h6
    |false=>exact dH (h6.fail e e')
  |choice =>
   rw[pM,pM];refine(ih _ _ _ h).then fun a r r' hr=>?_
   refine(ih _ _ _ hr).then fun b r r' hr=>?_
   obtain⟨o,q,q',h4,h5,h6⟩:=(hr.D5 e e' 4 lK).vU 4 [xR];rw[h4,h5];cases o with
   |some x=>exact(ih _ _ _ h6).then fun w p p' hp=>dH hp
   |none=>exact(ih _ _ _ h6).then fun w p p' hp=>dH hp
  |fn =>
   rw[pM,pM];obtain⟨hn,hs⟩:=h.name e e';rw[hn];obtain⟨o,q,q',h4,h5,h6⟩:=hs.vU 6 [[44]];rw[h4,h5];cases o with
   |some x=>exact(ih _ _ _ h6).then fun w p p' hp=>dH hp
   |none=>exact(ih _ _ _ (h6.D5 e e' 6 [45,62])).then fun w p p' hp=>dH hp
  |block =>
   rw[pM,pM];exact ih _ _ _ (h.D5 e e' 7 [123])
  |blockL l =>
   rw[pM,pM];refine(ih _ _ _ h).then fun t r r' hr=>?_
   obtain⟨o,q,q',h4,h5,h6⟩:=hr.vU 6 [[59]];rw[h4,h5];simp only;obtain⟨o2,p,p',h7,h8,h9⟩:=h6.vU 8 [[125]];rw[h7,h8];cases o2 with
   |some x=>exact dH h9
   |none =>
    simp only;rw[(qG h9).1]
    by_cases hb:(o.isSome && !p'.cZ)=true
    · rw[if_pos hb,if_pos hb];exact ih _ _ _ h9
    · rw[if_neg hb,if_neg hb];exact dH (h9.fail e e')
  |part k =>
   rw[pM,pM];split
   · exact(ih _ _ _ h).then fun t r r' hr=>ih _ _ _ hr
   · split
     · obtain⟨o,q,q',h4,h5,h6⟩:=h.vU 4 [n7];rw[h4,h5];cases o with
       |some x=>exact(ih _ _ _ h6).then fun w p p' hp=>dH hp
       |none =>
        obtain⟨o,p,p',h7,h8,h9⟩:=h6.vU 6 [tg];simp only;rw[h7,h8];cases o with
        |some x=>exact(ih _ _ _ h9).then fun w p p' hp=>dH hp
        |none=>exact ih _ _ _ h9
     · split
       · obtain⟨o,q,q',h4,h5,h6⟩:=h.vU 6 [jH];rw[h4,h5];cases o with
         |some x=>exact(ih _ _ _ h6).then fun w p p' hp=>dH hp
         |none=>exact ih _ _ _ h6
       · exact(ih _ _ _ h).then fun t r r' hr=>ih _ _ _ hr
  |opL k t =>
   rw[pM,pM];obtain⟨o,q,q',h4,h5,h6⟩:=h.MN k;rw[h4,h5];cases o with
   |some x =>
    refine(ih _ _ _ h6).then fun u r r' hr=>?_
    by_cases h3:k=3
    · rw[if_pos h3,if_pos h3];exact dH hr
    · rw[if_neg h3,if_neg h3];exact ih _ _ _ hr
   |none=>exact dH h6
  |callL t =>
   rw[pM,pM];obtain⟨o,q,q',h4,h5,h6⟩:=h.vU 7 [[40]];rw[h4,h5];cases o with
   |some x=>exact ih _ _ _ h6
   |none=>exact dH h6
  |argL t =>
   rw[pM,pM];refine(ih _ _ _ h).then fun a r r' hr=>?_
   obtain⟨o,q,q',h4,h5,h6⟩:=hr.vU 6 [[44]];rw[h4,h5];cases o with
   |some x=>exact ih _ _ _ h6
   |none=>exact ih _ _ _ (h6.D5 e e' 8 [41])
  |atom =>
   rcases h.cases with ⟨m,m',rfl,rfl⟩|⟨rfl,rfl⟩|⟨u,u',r,r',rfl,rfl,h1,h2,h3⟩
   · rw[pM,pM];exact dH trivial
   · rw[pM,pM];exact dH trivial
   · rw[pM,pM,GL h1 h2,h1,h2];cases iJ u' with
     |some t=>exact dH h3
     |none =>
      simp only;split
      · exact ih _ _ _ h
      · split
        · exact(ih _ _ _ h3).then fun t r r' hr=>dH (hr.D5 e e' 8 [41])
        · exact dH (h.fail e e')
theorem BR (e e':Int):∀(n:Nat) (l:List Tr) (s s':PS),sd s s'->match dy e n l s,dy e' n l s' with
 |none,none=>True
 |some (k,r),some (k',r')=>k=k'/\sd r r'
 |_,_=>False:=by
 intro n
 induction n with
 |zero=>intro l s s' _;rw[dy,dy];exact trivial
 |succ n ih =>
  intro l s s' h;have hl:=(qG h).2;rw[dy,dy,hl]
  by_cases h0:s'.len=0
  · rw[if_pos h0,if_pos h0];exact⟨rfl,h⟩
  · rw[if_neg h0,if_neg h0];have hp:=Jg e e' n .stmt s s' h;cases hq:pM e n .stmt s with
    |none =>
     rw[hq] at hp;cases hq':pM e' n .stmt s' with
     |none=>exact trivial
     |some x=>rw[hq'] at hp;exact hp.elim
    |some x =>
     rw[hq] at hp;cases hq':pM e' n .stmt s' with
     |none=>rw[hq'] at hp;exact hp.elim
     |some x' =>
      rw[hq'] at hp;obtain⟨t,r⟩:=x;obtain⟨t',r'⟩:=x';obtain⟨rfl,hr⟩:=hp;simp only[Option.bind_some];obtain⟨o,q,q',h4,h5,h6⟩:=hr.vU 6 [[59]];rw[h4,h5];cases o with
      |some x=>exact ih _ _ _ h6
      |none =>
       simp only;rw[(qG h6).2]
       by_cases h7:q'.len=0
       · rw[if_pos h7,if_pos h7];exact ih _ _ _ h6
       · rw[if_neg h7,if_neg h7];exact ih _ _ _ (h6.fail e e')
end
end Go.Proofs.YtmehdcdbeafljaaGreatDoor
namespace Go.Proofs.YtmehdcdbeafljaaGreatDoor
open Go
set_option maxRecDepth 100000
section
variable {n:Int}{w r l z:By}{st:gC}
def oM (st:gC):Prop:=st=(0,0)\/st=(1,0)\/st.1=2
theorem uz:∀n:Int,0<=n->∀p,eI 0 n=some p->(n=0/\p=(1,0))\/(n=1/\p=(2,0))\/(n=2/\p=(3,0))\/(n=3/\p=(5,0))\/(n=4/\p=(11,0))\/(n=5/\p=(11,3))\/(n=6/\p=(9,1))\/(n=7/\p=(7,0))\/(n=8/\p=(8,0))\/(n=9/\p=(6,0)):=by
 intro n hn p hp;obtain⟨n,rfl⟩:=Int.eq_ofNat_of_zero_le hn;unfold eI at hp;rw[if_neg (by omega),Int.toNat_natCast] at hp;have:n<10:=(List.getElem?_eq_some_iff.1 hp).1
 match n,this with
 | 0,_=>cases hp;simp
 | 1,_=>cases hp;simp
 | 2,_=>cases hp;simp
 | 3,_=>cases hp;simp
 | 4,_=>cases hp;simp
 | 5,_=>cases hp;simp
 | 6,_=>cases hp;simp
 | 7,_=>cases hp;simp
 | 8,_=>cases hp;simp
 | 9,_=>cases hp;simp
theorem Cc:∀n:Int,0<=n->∀p,eI 1 n=some p->(n=0/\p=(9,0))\/(n=1/\p=(10,0))\/(n=2/\p=(9,2))\/(n=3/\p=(9,0)):=by
 intro n hn p hp;obtain⟨n,rfl⟩:=Int.eq_ofNat_of_zero_le hn;unfold eI at hp;rw[if_neg (by omega),Int.toNat_natCast] at hp;have:n<4:=(List.getElem?_eq_some_iff.1 hp).1
 match n,this with
 | 0,_=>cases hp;simp
 | 1,_=>cases hp;simp
 | 2,_=>cases hp;simp
 | 3,_=>cases hp;simp
theorem Cb:∀n:Int,0<=n->∀p,eI 2 n=some p->(n=0/\p=(11,3))\/(n=1/\p=(11,4))\/(n=2/\p=(11,0))\/(n=3/\p=(11,0)):=by
 intro n hn p hp;obtain⟨n,rfl⟩:=Int.eq_ofNat_of_zero_le hn;unfold eI at hp;rw[if_neg (by omega),Int.toNat_natCast] at hp;have:n<4:=(List.getElem?_eq_some_iff.1 hp).1
 match n,this with
 | 0,_=>cases hp;simp
 | 1,_=>cases hp;simp
 | 2,_=>cases hp;simp
 | 3,_=>cases hp;simp
theorem zi:(yL.all fun p=>decide (aJ cH p.1<10))=true/\(EJ.all fun p=>decide (aJ dh p.1<4))=true/\(pP.all fun p=>decide (aJ eE p.1<4))=true:=by decide +kernel
theorem qH {m:Int}(h0:0<=n) (h:n<((rI m).length:Nat)):∃p,eI m n=some p:=by
 obtain⟨n,rfl⟩:=Int.eq_ofNat_of_zero_le h0;unfold eI;rw[if_neg (by omega),Int.toNat_natCast];exact⟨_,List.getElem?_eq_getElem (by omega)⟩
theorem EW {m:Int}(hm:m=0\/m=1\/m=2) (h0:w≠[]) (h:cV m (w++r)=(((w.length:Nat):Int),n)):0<=n/\∃p,eI m n=some p:=by
 rcases hm with rfl|rfl|rfl
 · rw[uo] at h;obtain⟨q1,q2,q3⟩:=gF h0 h;obtain⟨p,hp,e⟩:=List.mem_map.1 (jB q3);have:=of_decide_eq_true (List.all_eq_true.1 zi.1 p hp);rw[e,q1] at this;exact⟨q2,qH q2 this⟩
 · rw[wY] at h;obtain⟨q1,q2,q3⟩:=gF h0 h;obtain⟨p,hp,e⟩:=List.mem_map.1 ((kR wG w T1 jz.2.1).resolve_left q3);have:=of_decide_eq_true (List.all_eq_true.1 zi.2.1 p hp);rw[e,q1] at this;exact⟨q2,qH q2 this⟩
 · rw[AK] at h;obtain⟨q1,q2,q3⟩:=gF h0 h;obtain⟨p,hp,e⟩:=List.mem_map.1 ((kR wF w T2 jz.2.2).resolve_left q3);have:=of_decide_eq_true (List.all_eq_true.1 zi.2.2 p hp);rw[e,q1] at this;exact⟨q2,qH q2 this⟩
theorem oM.mode (h:oM st):st.1=0\/st.1=1\/st.1=2:=by
 rcases h with rfl|rfl|h
 · exact .inl rfl
 · exact .inr (.inl rfl)
 · exact .inr (.inr h)
structure GX (l:By) (st:gC) (w r:By):Prop where
 eq:l=w++r
 ne:w≠[]
 len:bT l st.1=w.length
 tk:l.take (bT l st.1)=w
 dr:l.drop (bT l st.1)=r
theorem sC (hl:l≠[]) (st:gC):∃w r,GX l st w r:=by
 have h:=eT hl st.1;have hlen:(l.take (bT l st.1)).length=bT l st.1:=by rw[List.length_take];omega
 exact⟨l.take (bT l st.1),l.drop (bT l st.1),(List.take_append_drop _ _).symm,fun e=>by rw[e] at hlen;simp at hlen;omega,hlen.symm,rfl,rfl⟩
theorem GX.cases (hm:st.1=0\/st.1=1\/st.1=2) (k:GX l st w r) :
 ((cV st.1 l).1=0/\w=l.take (cW l)/\dB l st.1=0/\cR l st=st)\/∃n p,cV st.1 (w++r)=(((w.length:Nat):Int),n)/\0<=n/\eI st.1 n=some p/\dB l st.1=(if p.1=3/\de w=true then 4 else p.1)/\cR l st=cN st n:=by
 by_cases h:(cV st.1 l).1=0
 · left
   refine⟨h,?_,by unfold dB;rw[if_pos h],by unfold cR;rw[if_pos h]⟩;rw[<-k.tk];unfold bT;rw[if_pos h]
 · right
   have hl:=k.len;unfold bT at hl;rw[if_neg h] at hl;have h0:=(pI st.1 l).1;have he:cV st.1 (w++r)=(((w.length:Nat):Int),(cV st.1 l).2):=by rw[<-k.eq];exact Prod.ext (by rw[<-hl];show _=(((cV st.1 l).1.toNat:Nat):Int);omega) rfl
   obtain⟨hn,p,hp⟩:=EW hm k.ne he;obtain⟨_,h2,h3⟩:=sB (st:=st) k.ne he;rw[<-k.eq] at h2 h3;refine⟨_,p,he,hn,hp,?_,h3⟩;rw[h2];have:eV st.1 (cV st.1 l).2=p.1:=by unfold eV;rw[hp]
   rw[this]
theorem GR (hs:oM st) (hn:0<=n){p:Int×Int}(hp:eI st.1 n=some p):oM (cN st n):=by
 unfold cN;rw[hp]
 rcases hs with rfl|rfl|h2
 · rcases uz n hn p hp with ⟨_,rfl⟩|⟨_,rfl⟩|⟨_,rfl⟩|⟨_,rfl⟩|⟨_,rfl⟩|⟨_,rfl⟩|⟨_,rfl⟩|⟨_,rfl⟩|⟨_,rfl⟩|⟨_,rfl⟩<;>simp[oM]
 · rcases Cc n hn p hp with ⟨_,rfl⟩|⟨_,rfl⟩|⟨_,rfl⟩|⟨_,rfl⟩<;>simp[oM]
 · rw[h2] at hp
   rcases Cb n hn p hp with ⟨_,rfl⟩|⟨_,rfl⟩|⟨_,rfl⟩|⟨_,rfl⟩
   · simp[oM]
   · simp only;rw[if_neg (by decide),if_neg (by decide),if_neg (by decide)];split
     · exact .inr (.inr h2)
     · exact .inl rfl
   · exact .inr (.inr h2)
   · exact .inr (.inr h2)
theorem FB (hl:l≠[]) (hs:oM st):oM (cR l st):=by
 obtain⟨w,r,k⟩:=sC hl st
 rcases k.cases hs.mode with ⟨_,_,_,e⟩|⟨n,p,_,hn,hp,_,e⟩
 · rw[e];exact hs
 · rw[e];exact GR hs hn hp
def Mp (st':gC) (r x:By):Prop:=(st'.1=0->Ws x/\((r=[]\/∃r',r=10::r')->x=[]\/∃x',x=10::x'))/\(st'.1≠0->K9 r x)
theorem nj:cX cH T0 [34]=[30]/\Bk [30] (fun _=>true) []=true/\Bk [27] (fun _=>true) []=true/\HJ [6] (fun _=>true) []=true/\F9 [3] (fun _=>true) []=true:=by decide +kernel
theorem sP:(yL.all fun p=>(!(aJ cH p.1 ==6) ||p.1 ==[30]) && (!(aJ cH p.1 ==5) ||p.1 ==[27]))=true/\(EJ.all fun p=> !(aJ dh p.1 ==2) ||p.1 ==[6])=true/\(pP.all fun p=> !(aJ eE p.1 ==1) ||p.1 ==[3])=true:=by decide +kernel
theorem Fc {x:By}(hs:oM st) (k:GX l st w r) (hb:Mp (cR l st) r x) (hk:¬(st.1=0/\dB l st.1=1)):bT (w++x) st.1=w.length/\dB (w++x) st.1=dB l st.1/\cR (w++x) st=cR l st:=by
 have hl:l≠[]:=by rw[k.eq];simp[k.ne]
 rcases k.cases hs.mode with ⟨h1,h2,h3,h4⟩|⟨n,p,he,hn,hp,h5,h6⟩
 · rw[h4] at hb
   have key:(cV st.1 (w++x)).1=0/\cW (w++x)=w.length:=by
    have hwl:w.length=cW l:=by rw[h2,List.length_take];have:=o8 hl;omega
    rw[hwl,h2]
    rcases hs with rfl|rfl|h
    · exact Mg hl h1 (hb.1 rfl).1
    · refine Mf hl h1 ?_;have:=hb.2 (by decide)
      rwa [<-k.dr,show bT l (1,(0:Int)).1=cW l from by unfold bT;rw[if_pos h1]] at this
    · rw[h] at h1;exact absurd h1 (Me hl)
   refine⟨?_,?_,?_⟩
   · unfold bT;rw[if_pos key.1];exact key.2
   · rw[h3];unfold dB;rw[if_pos key.1]
   · rw[h4];unfold cR;rw[if_pos key.1]
 · have key:cV st.1 (w++x)=(((w.length:Nat):Int),n):=by
    rw[h6] at hb
    rcases hs with rfl|rfl|h
    · by_cases h0:n=0
      · subst h0;have:p=(1,0):=Option.some.inj (hp.symm.trans rfl);subst this;exact absurd ⟨rfl,h5⟩ hk
      · by_cases h4:n=4
        · subst h4;have t:=Lt (x:=x) k.ne he;exact t.2 ((hb.1 rfl).2 t.1)
        · by_cases h56:n=5\/n=6
          · have he':=he;rw[show ((0:Int),(0:Int)).1=0 from rfl,uo] at he';obtain⟨q1,q2,q3⟩:=gF k.ne he';obtain⟨q,hq,e⟩:=List.mem_map.1 (jB q3);have ha:=List.all_eq_true.1 sP.1 q hq;rw[e,q1,Bool.and_eq_true] at ha;refine AL rfl q1 q2 q3 ?_
            rcases h56 with rfl|rfl
            · have:cX cH T0 w=[27]:=by simpa using ha.2
              rw[this];exact mS nj.2.2.1 x
            · have:cX cH T0 w=[30]:=by simpa using ha.1
              rw[this];exact mS nj.2.1 x
          · have hst:(cN (0,0) n).1=0:=by
             unfold cN;rw[hp]
             rcases uz n hn p hp with ⟨rfl,rfl⟩|⟨rfl,rfl⟩|⟨rfl,rfl⟩|⟨rfl,rfl⟩|⟨rfl,rfl⟩|⟨rfl,rfl⟩|⟨rfl,rfl⟩|⟨rfl,rfl⟩|⟨rfl,rfl⟩|⟨rfl,rfl⟩<;>first|rfl|(exfalso;omega)
            exact Lx k.ne ⟨h0,h4⟩ he (hb.1 hst).1
    · by_cases h2:n=2
      · subst h2;have he':=he;rw[show ((1:Int),(0:Int)).1=1 from rfl,wY] at he';obtain⟨q1,q2,q3⟩:=gF k.ne he';obtain⟨q,hq,e⟩:=List.mem_map.1 ((kR wG w T1 jz.2.1).resolve_left q3);have ha:=List.all_eq_true.1 sP.2.1 q hq;rw[e,q1] at ha;refine Mc rfl q1 q2 q3 ?_;have:cX dh T1 w=[6]:=by simpa using ha
        rw[this];exact Ez nj.2.2.2.1 x
      · refine Lv k.ne he (hb.2 ?_);unfold cN;rw[hp]
        rcases Cc n hn p hp with ⟨rfl,rfl⟩|⟨rfl,rfl⟩|⟨rfl,rfl⟩|⟨rfl,rfl⟩<;>first|decide|(exfalso;omega)
    · rw[h] at he hp ⊢
      by_cases h1:n=1
      · subst h1;have he':=he;rw[AK] at he';obtain⟨q1,q2,q3⟩:=gF k.ne he';obtain⟨q,hq,e⟩:=List.mem_map.1 ((kR wF w T2 jz.2.2).resolve_left q3);have ha:=List.all_eq_true.1 sP.2.2 q hq;rw[e,q1] at ha;refine B6 rfl q1 q2 q3 ?_;have:cX eE T2 w=[3]:=by simpa using ha
        rw[this];exact nA nj.2.2.2.2 x
      · refine Lu k.ne he (hb.2 ?_);unfold cN;rw[h,hp]
        rcases Cb n hn p hp with ⟨rfl,rfl⟩|⟨rfl,rfl⟩|⟨rfl,rfl⟩|⟨rfl,rfl⟩
        · simp
        · exact absurd rfl h1
        · simp[h]
        · simp[h]
   obtain⟨t1,t2,t3⟩:=sB (st:=st) k.ne key;refine⟨t1,?_,by rw[t3,h6]⟩;rw[t2,h5];have:eV st.1 n=p.1:=by unfold eV;rw[hp]
   rw[this]
theorem Mu:(yL.all fun p=>p.1 ==T0 ||Ai.all fun r=> !(bg cH r p.1 ==[3]))=true/\(yL.all fun p=>(p.1 ==T0 ||p.1 ==[0,2]) ||Ai.all fun r=> !(bg cH r p.1 ==[0,2]))=true:=by decide +kernel
theorem LG:(List.range 256).all (fun n=>decide (bg cH (UInt8.ofNat n) T0≠[3]) ||decide (UInt8.ofNat n=10))=true/\(List.range 256).all (fun n=>decide (bg cH (UInt8.ofNat n) T0≠[0,2]) ||zu (UInt8.ofNat n))=true/\(List.range 256).all (fun n=>decide (bg cH (UInt8.ofNat n) [0,2]≠[0,2]) ||zu (UInt8.ofNat n))=true:=by decide +kernel
theorem Ml:(yL.all fun p=> !(aJ cH p.1 ==1) ||p.1 ==[3])=true:=by decide +kernel
theorem tL (ss:List bK) (v:By) (d:UInt8) (T:List Nat):cX ss T (v++[d])=bg ss d (cX ss T v):=by rw[kf];rfl
theorem Jd (h:cX cH T0 w=[3]):w=[10]:=by
 rcases List.eq_nil_or_concat w with rfl|⟨v,d,rfl⟩
 · exact absurd h (by decide +kernel)
 · rw[List.concat_eq_append,tL] at h;cases v with
   |nil =>
    have hd:=we (p:=fun d=>decide (bg cH d T0≠[3]) ||decide (d=10)) LG.1 d;rw[Bool.or_eq_true] at hd
    rcases hd with hd|hd
    · exact absurd h (of_decide_eq_true hd)
    · obtain rfl:=of_decide_eq_true hd;rfl
   |cons c v =>
    exfalso;have hv:cX cH T0 (c::v)≠[]:=fun e=>by rw[e,iR] at h;cases h
    obtain⟨p,hp,e⟩:=List.mem_map.1 (jB hv);have h1:=List.all_eq_true.1 Mu.1 p hp;rw[Bool.or_eq_true] at h1
    rcases h1 with h1|h1
    · exact iT rV zX pE jz.1 firsts.1 (c::v) (by simp) (e.symm.trans (by simpa using h1))
    · have:=me rV (q:=fun U=> !(U ==[3])) h1 d;rw[e,h] at this;cases this
theorem Fi:∀(k:Nat) (w:By),w.length<=k->cX cH T0 w=[0,2]->w.all zu=true
 | 0,w,hk,_=>by rw[List.length_eq_zero_iff.1 (Nat.le_zero.1 hk)];rfl
 |k+1,w,hk,h=>by
  rcases List.eq_nil_or_concat w with rfl|⟨v,d,rfl⟩
  · rfl
  · rw[List.concat_eq_append] at hk h ⊢;rw[tL] at h;rw[List.length_append] at hk;have hk:v.length+1<=k+1:=hk;rw[List.all_append];cases v with
    |nil =>
     have hd:=we (p:=fun d=>decide (bg cH d T0≠[0,2]) ||zu d) LG.2.1 d;rw[Bool.or_eq_true] at hd
     rcases hd with hd|hd
     · exact absurd h (of_decide_eq_true hd)
     · simp[hd]
    |cons c v =>
     have hv:cX cH T0 (c::v)≠[]:=fun e=>by rw[e,iR] at h;cases h
     obtain⟨p,hp,e⟩:=List.mem_map.1 (jB hv);have h1:=List.all_eq_true.1 Mu.2 p hp;rw[Bool.or_eq_true,Bool.or_eq_true] at h1
     rcases h1 with (h1|h1)|h1
     · exact absurd (e.symm.trans (by simpa using h1)) (iT rV zX pE jz.1 firsts.1 (c::v) (by simp))
     · have hU:cX cH T0 (c::v)=[0,2]:=e.symm.trans (by simpa using h1);rw[hU] at h;have hd:=we (p:=fun d=>decide (bg cH d [0,2]≠[0,2]) ||zu d) LG.2.2 d;rw[Bool.or_eq_true] at hd
       rcases hd with hd|hd
       · exact absurd h (of_decide_eq_true hd)
       · rw[Fi k (c::v) (by omega) hU];simp[hd]
     · have:=me rV (q:=fun U=> !(U ==[0,2])) h1 d;rw[e,h] at this;cases this
theorem xj (h0:st.1=0) (hs:oM st) (k:GX l st w r):(dB l st.1=1->w.all zu=true/\cR l st=st)/\(dB l st.1=2->w=[10]):=by
 rcases k.cases hs.mode with ⟨_,_,h3,h4⟩|⟨n,p,he,hn,hp,h5,h6⟩
 · rw[h3];exact⟨fun q=>absurd q (by decide),fun q=>absurd q (by decide)⟩
 · rw[h0] at he hp;rw[uo] at he;obtain⟨q1,q2,q3⟩:=gF k.ne he;obtain⟨q,hq,e⟩:=List.mem_map.1 (jB q3);have hw:¬p.1=3->dB l st.1=p.1:=fun hne=>by rw[h5,if_neg (fun c=>hne c.1)]
   constructor
   · intro hk
     rcases uz n hn p hp with ⟨rfl,rfl⟩|⟨rfl,rfl⟩|⟨rfl,rfl⟩|⟨rfl,rfl⟩|⟨rfl,rfl⟩|⟨rfl,rfl⟩|⟨rfl,rfl⟩|⟨rfl,rfl⟩|⟨rfl,rfl⟩|⟨rfl,rfl⟩
     · have ha:=List.all_eq_true.1 Mm q hq;rw[e,q1] at ha;have hU:cX cH T0 w=[0,2]:=by simpa using ha
       refine⟨Fi w.length w (Nat.le_refl _) hU,?_⟩;rw[h6];unfold cN;rw[h0,hp];rfl
     · rw[hw (by decide)] at hk;cases hk
     · rw[h5] at hk;split at hk<;>cases hk
     · rw[hw (by decide)] at hk;cases hk
     · rw[hw (by decide)] at hk;cases hk
     · rw[hw (by decide)] at hk;cases hk
     · rw[hw (by decide)] at hk;cases hk
     · rw[hw (by decide)] at hk;cases hk
     · rw[hw (by decide)] at hk;cases hk
     · rw[hw (by decide)] at hk;cases hk
   · intro hk
     rcases uz n hn p hp with ⟨rfl,rfl⟩|⟨rfl,rfl⟩|⟨rfl,rfl⟩|⟨rfl,rfl⟩|⟨rfl,rfl⟩|⟨rfl,rfl⟩|⟨rfl,rfl⟩|⟨rfl,rfl⟩|⟨rfl,rfl⟩|⟨rfl,rfl⟩
     · rw[hw (by decide)] at hk;cases hk
     · have ha:=List.all_eq_true.1 Ml q hq;rw[e,q1] at ha;exact Jd (by simpa using ha)
     · rw[h5] at hk;split at hk<;>cases hk
     · rw[hw (by decide)] at hk;cases hk
     · rw[hw (by decide)] at hk;cases hk
     · rw[hw (by decide)] at hk;cases hk
     · rw[hw (by decide)] at hk;cases hk
     · rw[hw (by decide)] at hk;cases hk
     · rw[hw (by decide)] at hk;cases hk
     · rw[hw (by decide)] at hk;cases hk
theorem Hv (r:By):dB (10::r) 0=2:=by
 have h:cV 0 ([10]++r)=(((1:Nat):Int),1):=AL (w:=[10]) (U:=[3]) (by decide +kernel) (by decide +kernel) (by decide) (by decide) (mS (by decide +kernel) r);exact(sB (st:=(0,0)) (w:=[10]) (by simp) h).2.1
def oG (g:Nat->By) (z:By):Nat->Nat->By->gC->By
 | 0,_,_,_=>z
 |j+1,i,l,st=>if l=[] then z else (if st.1=0/\dB l st.1≠2 then g i else [])++(l.take (bT l st.1)++oG g z j (i+1) (l.drop (bT l st.1)) (cR l st))
theorem Jr {g:By}(hg:g∈nH) (y:By):Ws (g++y):=by
 simp only[nH,List.mem_cons,List.not_mem_nil,or_false] at hg
 rcases hg with rfl|rfl|rfl|rfl|rfl
 · exact .inr ⟨32,_,rfl,.inl rfl⟩
 · exact .inr ⟨10,_,rfl,.inr (.inr (.inl rfl))⟩
 · exact .inr ⟨32,_,rfl,.inl rfl⟩
 · exact .inr ⟨32,_,rfl,.inl rfl⟩
 · exact .inr ⟨9,_,rfl,.inr (.inl rfl)⟩
def Cx (z:By) (st:gC):Prop:=z=[]\/(z=[10]/\st.1=0)
theorem Cx.MB (h:Cx z st) (r:By):Mp st r z:=by
 rcases h with rfl|⟨rfl,h⟩
 · exact⟨fun _=>⟨.inl rfl,fun _=>.inl rfl⟩,fun _=>.inl rfl⟩
 · exact⟨fun _=>⟨.inr ⟨10,[],rfl,.inr (.inr (.inl rfl))⟩,fun _=>.inr ⟨[],rfl⟩⟩,fun q=>absurd h q⟩
theorem ni (j:Nat) (st:gC):oQ j [] st=([],st):=by cases j<;>simp[oQ]
theorem Jj {g:Nat->By}(hg:∀i,g i∈nH) (j i:Nat) (r:By) (st:gC) (hs:oM st) (hz:Cx z (oQ j r st).2):Mp st r (oG g z j i r st):=by
 cases j with
 |zero=>exact Cx.MB (st:=st) hz r
 |succ j =>
  rw[oG]
  by_cases hr:r=[]
  · rw[if_pos hr];subst hr;rw[ni] at hz;exact Cx.MB hz []
  · rw[if_neg hr];obtain⟨w,r',k⟩:=sC hr st;rw[k.tk,k.dr]
    by_cases hq:st.1=0/\dB r st.1≠2
    · rw[if_pos hq];refine⟨fun _=>⟨Jr (hg i) _,fun h=>?_⟩,fun h=>absurd hq.1 h⟩
      rcases h with h|⟨y,h⟩
      · exact absurd h hr
      · exfalso;have:=hq.2;rw[hq.1,h,Hv] at this;exact this rfl
    · rw[if_neg hq,List.nil_append];refine⟨fun h0=>?_,fun _=>?_⟩
      · have hk:dB r st.1=2:=Classical.byContradiction fun q=>hq ⟨h0,q⟩
        have hw:=(xj h0 hs k).2 hk;subst hw;exact⟨.inr ⟨10,_,rfl,.inr (.inr (.inl rfl))⟩,fun _=>.inr ⟨_,rfl⟩⟩
      · obtain⟨c,w',rfl⟩:=List.exists_cons_of_ne_nil k.ne;exact .inr ⟨c,w'++r',_,k.eq,rfl⟩
theorem C8 {g:Nat->By}(hg:∀i,g i∈nH):∀(j i:Nat) (l:By) (st:gC),oM st->Cx z (oQ j l st).2->sg (oG g z j i l st) st=oQ j l st:=by
 have base:∀st:gC,oM st->Cx z st->sg z st=([],st):=fun st hs hz=>by
  rcases hz with rfl|⟨rfl,h0⟩
  · rfl
  · rcases hs with rfl|rfl|h2
    · exact sG []
    · cases h0
    · rw[h2] at h0;cases h0
 intro j
 induction j with
 |zero=>intro i l st hs hz;exact base st hs hz
 |succ j ih =>
  intro i l st hs hz;rw[oG]
  by_cases hl:l=[]
  · subst hl;rw[if_pos rfl];rw[ni] at hz ⊢;exact base st hs hz
  · rw[if_neg hl];obtain⟨w,r,k⟩:=sC hl st;rw[oQ,if_neg hl] at hz ⊢;rw[k.tk,k.dr] at *;have hs':=FB hl hs;have hx:=ih (i+1) r (cR l st) hs' hz;have hb:=Jj hg j (i+1) r (cR l st) hs' hz;generalize oG g z j (i+1) r (cR l st)=x at hx hb
    have core:sg (w++x) st=(if Hi (dB l st.1) then (oQ j r (cR l st)).1 else (dB l st.1,w)::(oQ j r (cR l st)).1,(oQ j r (cR l st)).2):=by
     by_cases hk:st.1=0/\dB l st.1=1
     · obtain⟨q1,q2⟩:=(xj hk.1 hs k).1 hk.2;rw[q2] at hx
       have hst:st=(0,0):=by
        rcases hs with h|h|h
        · exact h
        · rw[h] at hk;cases hk.1
        · rw[hk.1] at h;cases h
       rw[q2,hk.2,if_pos (.inl rfl),<-hx];rw[hst];exact qc q1
     · obtain⟨t1,t2,t3⟩:=Fc hs k hb hk;rw[xY k.ne t1 t2 t3,hx]
    by_cases hq:st.1=0/\dB l st.1≠2
    · rw[if_pos hq]
      have hst:st=(0,0):=by
       rcases hs with h|h|h
       · exact h
       · rw[h] at hq;cases hq.1
       · rw[hq.1] at h;cases h
      rw[<-core,hst];exact Gf (hg i) _
    · rw[if_neg hq,List.nil_append];exact core
def Cw:Nat->By->gC->By×gC
 | 0,l,st=>(l,st)
 |j+1,l,st=>if l=[] then ([],st) else Cw j (l.drop (bT l st.1)) (cR l st)
def Iq (g:Nat->By) (i:Nat) (q:By×gC):By:=if q.1=[] then [] else (if q.2.1=0/\dB q.1 q.2.1≠2 then g i else [])++q.1.take (bT q.1 q.2.1)
theorem C9 (g:Nat->By):∀(j i:Nat) (l:By) (st:gC) (z:By),oG g z (j+1) i l st=oG g (Iq g (i+j) (Cw j l st)++z) j i l st
 | 0,i,l,st,z=>by
  show (if l=[] then z else _++(_++z))=Iq g (i+0) (l,st)++z
  unfold Iq
  by_cases hl:l=[]
  · rw[if_pos hl,if_pos hl];rfl
  · rw[if_neg hl,if_neg hl,List.append_assoc];rfl
 |j+1,i,l,st,z=>by
  show (if l=[] then z else _++(_++oG g z (j+1) (i+1) _ _))=(if l=[] then Iq g (i+(j+1)) (Cw (j+1) l st)++z else _++(_++oG g (Iq g (i+(j+1)) (Cw (j+1) l st)++z) j (i+1) _ _))
  rw[Cw]
  by_cases hl:l=[]
  · rw[if_pos hl,if_pos hl,if_pos hl,Iq,if_pos rfl];rfl
  · rw[if_neg hl,if_neg hl,if_neg hl,C9 g j (i+1),show i+1+j=i+(j+1) by omega]
theorem yp (g:Nat->By):∀(j i:Nat) (l:By) (st:gC) (z:By),oG g z j i l st=oG g [] j i l st++z
 | 0,_,_,_,_=>rfl
 |j+1,i,l,st,z=>by
  rw[oG,oG]
  by_cases hl:l=[]
  · rw[if_pos hl,if_pos hl];rfl
  · rw[if_neg hl,if_neg hl,yp g j (i+1) _ _ z,List.append_assoc,List.append_assoc]
theorem Hq (g:Nat->By) (j:Nat) (l:By) (st:gC):oG g [] (j+1) 0 l st=oG g [] j 0 l st++Iq g j (Cw j l st):=by
 rw[C9,List.append_nil,yp,Nat.zero_add]
theorem wH:∀(j:Nat) (l:By) (st:gC),(oQ j l st).2=(Cw j l st).2
 | 0,_,_=>rfl
 |j+1,l,st=>by
  rw[oQ,Cw]
  by_cases hl:l=[]
  · rw[if_pos hl,if_pos hl]
  · rw[if_neg hl,if_neg hl];exact wH j _ _
theorem GS:∀(j:Nat) (l:By) (a:Nat) (st:gC),Cw j l st=(l.drop ((lX j l a st).1-a),(lX j l a st).2)
 | 0,l,a,st=>by rw[Cw,lX,Nat.sub_self,List.drop_zero]
 |j+1,l,a,st=>by
  rw[Cw,lX]
  by_cases hl:l=[]
  · subst hl;rw[if_pos rfl,if_pos rfl,List.drop_nil]
  · rw[if_neg hl,if_neg hl,GS j _ (a+bT l st.1)];have:=Cg j (l.drop (bT l st.1)) (a+bT l st.1) (cR l st);rw[List.drop_drop,show bT l st.1+((lX j (l.drop (bT l st.1)) (a+bT l st.1) (cR l st)).1-(a+bT l st.1))=(lX j (l.drop (bT l st.1)) (a+bT l st.1) (cR l st)).1-a by omega]
def GV (x:By):List Sh->List Sh
 | []=>[]
 | [u]=>[(u.1,u.2++x)]
 |u::v::l=>u::GV x (v::l)
theorem vu (x:By):∀l:List Un,(iP x l).map sE=GV x (l.map sE)
 | []=>rfl
 | [u]=>rfl
 |u::v::l=>by
  show sE u::(iP x (v::l)).map sE=sE u::GV x ((v::l).map sE)
  rw[vu x (v::l)]
def lY:List Sh->List Sh->Bool->Int ⊕ (List Sh×Bool)
 | [],out,op=>.inr (out,op)
 |t::l,out,op=>if t.1=0 then .inl 10 else
  if op=true then (if t.1=9/\t.2=[34] then lY l out false else if t.1=10 then lY l (GV [oF t.2] out) true else lY l (GV t.2 out) true)
  else if out.length=500 then .inl 3 else lY l (out++[(t.1,if t.1=9 then [] else t.2)]) (decide (t.1=9))
def Mn:UR->Int ⊕ (List Sh×Bool)->Prop
 |.er _ e,.inl e'=>e=e'
 |.go o p,.inr (o',p')=>o.map sE=o'/\p=p'
 |_,_=>False
theorem BO (h0:w≠[]) (h:cV 1 (w++r)=(((w.length:Nat):Int),n)):n=2↔w=[34]:=by
 rw[wY] at h;obtain⟨q1,q2,q3⟩:=gF h0 h;constructor
 · intro hn;subst hn;obtain⟨q,hq,e⟩:=List.mem_map.1 ((kR wG w T1 jz.2.1).resolve_left q3);have ha:=List.all_eq_true.1 sP.2.1 q hq;rw[e,q1] at ha;have hU:cX dh T1 w=[6]:=by simpa using ha
   have n6:(EJ.all fun p=>p.1 ==T1 ||Ah.all fun r=> !(bg dh r p.1 ==[6]))=true:=by decide +kernel
   have s6:(List.range 256).all (fun n=>decide (bg dh (UInt8.ofNat n) T1≠[6]) ||decide (UInt8.ofNat n=34))=true:=by decide +kernel
   rcases List.eq_nil_or_concat w with rfl|⟨v,d,rfl⟩
   · exact absurd rfl h0
   · rw[List.concat_eq_append] at *;rw[tL] at hU;cases v with
     |nil =>
      have hd:=we (p:=fun d=>decide (bg dh d T1≠[6]) ||decide (d=34)) s6 d;rw[Bool.or_eq_true] at hd
      rcases hd with hd|hd
      · exact absurd hU (of_decide_eq_true hd)
      · obtain rfl:=of_decide_eq_true hd;rfl
     |cons c v =>
      exfalso;have hv:cX dh T1 (c::v)≠[]:=fun e=>by rw[e,iR] at hU;cases hU
      obtain⟨p,hp,e⟩:=List.mem_map.1 ((kR wG (c::v) T1 jz.2.1).resolve_left hv);have h1:=List.all_eq_true.1 n6 p hp;rw[Bool.or_eq_true] at h1
      rcases h1 with h1|h1
      · exact iT A5 wG As jz.2.1 firsts.2.1 (c::v) (by simp) (e.symm.trans (by simpa using h1))
      · have:=me A5 (q:=fun U=> !(U ==[6])) h1 d;rw[e,hU] at this;cases this
 · intro hw;subst hw;rw[JX.1] at q1;exact q1.symm
theorem sA (s:By):∀(n:Nat) (l:By) (a:Nat) (st:gC) (out:List Un) (op:Bool),s.drop a=l->a<=s.length->l.length<=n->oM st->op=decide (st.1=1) ->
 (∀t∈(fL n l a st).1,yI s t=true)/\(fL n l a st).2=(sg l st).2/\Mn (iq s (fL n l a st).1 out op) (lY (sg l st).1 (out.map sE) op)
 |n,l,a,st,out,op,hs,ha,hn,hok,hop=>by
  by_cases hl:l=[]
  · subst hl;rw[qd];exact⟨fun t ht=>(by cases ht),rfl,rfl,rfl⟩
  · obtain⟨w,r,k⟩:=sC hl st;have hwp:=List.length_pos_iff.2 k.ne;rw[k.eq] at hs;obtain⟨hd,hlen⟩:=En k.ne hs;have hok':=FB hl hok;have hrn:r.length<n:=by rw[k.eq,List.length_append] at hn;omega
    have IH:=fun out op h=>sA s n r (a+w.length) (cR l st) out op hd hlen (Nat.le_of_lt hrn) hok' h
    have hsg:sg l st=(if Hi (dB l st.1) then (sg r (cR l st)).1 else (dB l st.1,w)::(sg r (cR l st)).1,(sg r (cR l st)).2):=by
     have:=xY (w:=w) (x:=r) (st:=st) k.ne (by rw[<-k.eq];exact k.len) rfl rfl;rw[<-k.eq] at this;exact this
    have hall:fL n l a st=((dB l st.1,((a:Nat):Int),((a+w.length:Nat):Int))::(fL n r (a+w.length) (cR l st)).1,(fL n r (a+w.length) (cR l st)).2):=by
     rw[nB hl hn,k.len,<-k.len,k.dr,k.len]
    obtain⟨i1,i2,_⟩:=IH out (decide ((cR l st).1=1)) rfl;rw[hall,hsg];refine⟨fun t ht=>?_,i2,?_⟩
    · rcases List.mem_cons.1 ht with rfl|ht
      · exact I6 _ hlen
      · exact i1 t ht
    · -- the unit
      have htx:=EV (s:=s) (dB l st.1) hs;rw[iq];unfold jT;rw[htx];simp only
      rcases k.cases hok.mode with ⟨_,_,h3,_⟩|⟨n',p,he,hn',hp,h5,h6⟩
      · rw[h3,if_pos rfl,if_neg (by decide),lY,if_pos rfl];exact rfl
      · have hst':cR l st=cN st n':=h6
        rcases hok with rfl|rfl|h2
        · -- code
          have hop:op=false:=hop;subst hop
          have hk:(dB l (0,(0:Int)).1=1\/dB l (0,(0:Int)).1=2\/dB l (0,(0:Int)).1=11)/\(cN (0,0) n').1≠1\/(dB l (0,(0:Int)).1≠0/\¬(dB l (0,(0:Int)).1=1\/dB l (0,(0:Int)).1=2\/dB l (0,(0:Int)).1=11))/\decide (dB l (0,(0:Int)).1=9)=decide ((cN (0,0) n').1=1):=by
           rw[h5];unfold cN;rw[hp]
           rcases uz n' hn' p hp with ⟨_,rfl⟩|⟨_,rfl⟩|⟨_,rfl⟩|⟨_,rfl⟩|⟨_,rfl⟩|⟨_,rfl⟩|⟨_,rfl⟩|⟨_,rfl⟩|⟨_,rfl⟩|⟨_,rfl⟩
           · left;rw[if_neg (fun c=>absurd c.1 (by decide))];decide
           · left;rw[if_neg (fun c=>absurd c.1 (by decide))];decide
           · right;by_cases hw:de w=true
             · rw[if_pos ⟨rfl,hw⟩];decide
             · rw[if_neg (fun c=>hw c.2)];decide
           · right;rw[if_neg (fun c=>absurd c.1 (by decide))];decide
           · left;rw[if_neg (fun c=>absurd c.1 (by decide))];decide
           · left;rw[if_neg (fun c=>absurd c.1 (by decide))];decide
           · right;rw[if_neg (fun c=>absurd c.1 (by decide))];decide
           · right;rw[if_neg (fun c=>absurd c.1 (by decide))];decide
           · right;rw[if_neg (fun c=>absurd c.1 (by decide))];decide
           · right;rw[if_neg (fun c=>absurd c.1 (by decide))];decide
          rcases hk with ⟨k1,k2⟩|⟨⟨k1,k2⟩,k3⟩
          · rw[if_neg (by omega),if_neg (by decide:¬false=true),if_pos k1,if_pos (show Hi _ from k1)];exact(IH out false (by rw[hst'];exact(decide_eq_false k2).symm)).2.2
          · rw[if_neg k1,if_neg (by decide:¬false=true),if_neg k2,if_neg (show ¬Hi _ from k2),lY,if_neg k1,if_neg (by decide:¬false=true),List.length_map]
            by_cases h5':out.length=500
            · rw[if_pos h5',if_pos h5'];exact rfl
            · rw[if_neg h5',if_neg h5'];have:=(IH (out++[(dB l (0,(0:Int)).1,if dB l (0,(0:Int)).1=9 then [] else w,((a:Nat):Int))]) (decide (dB l (0,(0:Int)).1=9)) (by rw[hst'];exact k3)).2.2;rw[List.map_append] at this;exact this
        · -- a string
          have hop:op=true:=hop;subst hop;have hq:=BO k.ne he
          have hk:(n'=2/\dB l (1,(0:Int)).1=9/\(cN (1,0) n').1≠1)\/(n'≠2/\(dB l (1,(0:Int)).1=9\/dB l (1,(0:Int)).1=10)/\(cN (1,0) n').1=1):=by
           rw[h5];unfold cN;rw[hp]
           rcases Cc n' hn' p hp with ⟨rfl,rfl⟩|⟨rfl,rfl⟩|⟨rfl,rfl⟩|⟨rfl,rfl⟩
           · right;rw[if_neg (fun c=>absurd c.1 (by decide))];decide
           · right;rw[if_neg (fun c=>absurd c.1 (by decide))];decide
           · left;rw[if_neg (fun c=>absurd c.1 (by decide))];decide
           · right;rw[if_neg (fun c=>absurd c.1 (by decide))];decide
          rcases hk with ⟨k1,k2,k3⟩|⟨k1,k2,k3⟩
          · have hw:=hq.1 k1;rw[k2,if_neg (by decide),if_pos rfl,if_pos ⟨rfl,hw⟩,if_neg (by decide),lY,if_neg (fun c=>absurd c (by decide:¬(9:Int)=0)),if_pos rfl,if_pos ⟨rfl,hw⟩];exact(IH out false (by rw[hst'];exact(decide_eq_false k3).symm)).2.2
          · have hw:w≠[34]:=fun e=>k1 (hq.2 e)
            have hop':true=decide ((cR l (1,0)).1=1):=by rw[hst'];exact(decide_eq_true k3).symm
            rcases k2 with k2|k2
            · rw[k2,if_neg (by decide),if_pos rfl,if_neg (fun c=>hw c.2),if_neg (by decide),if_neg (by decide),lY,if_neg (fun c=>absurd c (by decide:¬(9:Int)=0)),if_pos rfl,if_neg (fun c=>hw c.2),if_neg (fun c=>absurd c (by decide:¬(9:Int)=10)),<-vu];exact(IH (iP w out) true hop').2.2
            · rw[k2,if_neg (by decide),if_pos rfl,if_neg (fun c=>hw c.2),if_pos rfl,if_neg (by decide),lY,if_neg (fun c=>absurd c (by decide:¬(10:Int)=0)),if_pos rfl,if_neg (fun c=>hw c.2),if_pos rfl,<-vu];exact(IH (iP [oF w] out) true hop').2.2
        · -- a comment
          have hop:op=false:=by rw[hop,h2];rfl
          subst hop
          have hk:dB l st.1=11/\(cN st n').1≠1:=by
           rw[h5];unfold cN;rw[hp];rw[h2] at hp
           rcases Cb n' hn' p hp with ⟨_,rfl⟩|⟨_,rfl⟩|⟨_,rfl⟩|⟨_,rfl⟩
           · rw[if_neg (fun c=>absurd c.1 (by decide))];exact⟨rfl,by simp⟩
           · rw[if_neg (fun c=>absurd c.1 (by decide))];refine⟨rfl,?_⟩;simp only;rw[if_neg (by decide),if_neg (by decide),if_neg (by decide)];split
             · rw[h2];decide
             · decide
           · rw[if_neg (fun c=>absurd c.1 (by decide))];exact⟨rfl,by simp[h2]⟩
           · rw[if_neg (fun c=>absurd c.1 (by decide))];exact⟨rfl,by simp[h2]⟩
          rw[hk.1,if_neg (by decide),if_neg (by decide:¬false=true),if_pos (by decide),if_pos (by decide)];exact(IH out false (by rw[hst'];exact(decide_eq_false hk.2).symm)).2.2
termination_by n l=>l.length
decreasing_by rw[k.eq,List.length_append];omega
theorem DI {s s':By}(h:sg s (0,0)=sg s' (0,0)){k k':List Tr}{a a' e e':Int}(hp:cj s (cE s).1 (cE s).2.1 k a e) (hp':cj s' (cE s').1 (cE s').2.1 k' a' e'):k=k'/\e=e':=by
 obtain⟨i1,i2,i3⟩:=sA s s.length s 0 (0,0) [] false rfl (Nat.zero_le _) (Nat.le_refl _) (.inl rfl) rfl;obtain⟨j1,j2,j3⟩:=sA s' s'.length s' 0 (0,0) [] false rfl (Nat.zero_le _) (Nat.le_refl _) (.inl rfl) rfl;rw[<-h] at j2 j3
 have hm:(cE s).2.1=(cE s').2.1:=by
  have:(cE s).2=(cE s').2:=i2.trans j2.symm;rw[this]
 have a1:(cE s).1.all (yI s)=true:=List.all_eq_true.2 i1;have a2:(cE s').1.all (yI s')=true:=List.all_eq_true.2 j1
 -- the units
 have hu:(∃p p' e,fH s (cE s).1 (cE s).2.1= .inl (p,e)/\fH s' (cE s').1 (cE s').2.1= .inl (p',e))\/∃u u':List Un,fH s (cE s).1 (cE s).2.1= .inr u/\fH s' (cE s').1 (cE s').2.1= .inr u'/\u.map sE=u'.map sE:=by
  unfold fH;rw[if_pos a1,if_pos a2]
  change Mn (iq s (cE s).1 [] false) _ at i3
  change Mn (iq s' (cE s').1 [] false) _ at j3
  cases hx:lY (sg s (0,0)).1 (([]:List Un).map sE) false with
  |inl e0 =>
   rw[hx] at i3 j3
   left
   cases hy:iq s (cE s).1 [] false with
   |go o p=>rw[hy] at i3;exact i3.elim
   |er p1 e1 =>
    cases hz:iq s' (cE s').1 [] false with
    |go o p=>rw[hz] at j3;exact j3.elim
    |er p2 e2 =>
     rw[hy] at i3;rw[hz] at j3;have i3:e1=e0:=i3;have j3:e2=e0:=j3;subst i3;subst j3;exact⟨p1,p2,e2,rfl,rfl⟩
  |inr q =>
   rw[hx] at i3 j3;obtain⟨o0,p0⟩:=q;cases hy:iq s (cE s).1 [] false with
   |er p1 e1=>rw[hy] at i3;exact i3.elim
   |go o p =>
    cases hz:iq s' (cE s').1 [] false with
    |er p1 e1=>rw[hz] at j3;exact j3.elim
    |go o' p' =>
     rw[hy] at i3;rw[hz] at j3;obtain⟨q1,q2⟩:=i3;obtain⟨r1,r2⟩:=j3;subst q2;subst r2;simp only;rw[hm]
     by_cases hc:p'=true\/(cE s').2.1≠0
     · left
       rw[if_pos hc,if_pos hc];exact⟨_,_,10,rfl,rfl⟩
     · right
       rw[if_neg hc,if_neg hc];exact⟨o,o',rfl,rfl,q1.trans r1.symm⟩
 rcases hu with ⟨p,p',e0,h1,h2⟩|⟨u,u',h1,h2,h3⟩
 · have x1:=cj.one hp (cj.units h1);have x2:=cj.one hp' (cj.units h2);exact⟨x1.1.trans x2.1.symm,x1.2.2.trans x2.2.2.symm⟩
 · obtain⟨n,y,hn⟩:=kU s.length (PS.ok u).len (.ok u) (Nat.le_refl _) [];obtain⟨n',y',hn'⟩:=kU s'.length (PS.ok u').len (.ok u') (Nat.le_refl _) [];have g1:=hn (max n n') (Nat.le_max_left _ _);have g2:=hn' (max n n') (Nat.le_max_right _ _);have hr:=BR s.length s'.length (max n n') [] (.ok u) (.ok u') h3;rw[g1,g2] at hr;obtain⟨t,r⟩:=y;obtain⟨t',r'⟩:=y';obtain⟨rfl,hr⟩:=hr;cases r with
   |bad m =>
    cases r' with
    |ok r'=>exact hr.elim
    |bad m' =>
     have x1:=cj.one hp (cj.bad h1 g1);have x2:=cj.one hp' (cj.bad h2 g2);exact⟨x1.1.trans x2.1.symm,x1.2.2.trans x2.2.2.symm⟩
   |ok r =>
    cases r' with
    |bad m'=>exact hr.elim
    |ok r' =>
     have x1:=cj.one hp (cj.ok h1 g1);have x2:=cj.one hp' (cj.ok h2 g2);exact⟨x1.1.trans x2.1.symm,x1.2.2.trans x2.2.2.symm⟩
end
end Go.Proofs.YtmehdcdbeafljaaGreatDoor
namespace Go.Proofs.YtmehdcdbeafljaaGreatDoor
open Go.Proofs.Tryz
open Go Go.Lw
set_option maxRecDepth 20000
def pR (bt:By) (i:Nat):By:=nH.getD ((bt.getD (i%bt.length) 0).toNat%5) [32]
theorem pQ (bt:By) (i:Nat):pR bt i∈nH:=by
 unfold pR;have h:(bt.getD (i%bt.length) 0).toNat%5<nH.length:=Nat.mod_lt _ (by decide);rw[List.getD_eq_getElem?_getD,List.getElem?_eq_getElem h];exact List.getElem_mem _
theorem uG:∀g∈nH,g.length<=21:=by decide
theorem HK {j:Nat}(h:j<5):(nH.map fun g=>Value.string (bs g))[j]? =some (.string (bs (nH.getD j [32]))):=by
 have h:j<nH.length:=h;rw[List.getElem?_map,List.getD_eq_getElem?_getD,List.getElem?_eq_getElem h];rfl
theorem BT {g:Nat->By}(hg:∀i,(g i).length<=21):∀(j i:Nat) (l:By) (st:gC),(oG g [] j i l st).length<=l.length+21*j
 | 0,_,_,_=>by simp[oG]
 |j+1,i,l,st=>by
  rw[oG];split
  · simp
  · have h2:=BT hg j (i+1) (l.drop (bT l st.1)) (cR l st)
    have h1:(if st.1=0/\dB l st.1≠2 then g i else []).length<=21:=by
     split
     · exact hg i
     · simp
    rw[List.length_append,List.length_append,List.length_take];rw[List.length_drop] at h2;omega
theorem Ge (bt s:By){i:Nat}(hi:i<(cE s).1.length):∃(p L:Nat) (K:Int),(cE s).1[i]? =some (K,(p:Int),((p+L:Nat):Int))/\p+L<=s.length /\
 oG (pR bt) [] (i+1) 0 s (0,0)=(oG (pR bt) [] i 0 s (0,0)++(if (Cw i s (0,0)).2.1=0/\K≠2 then pR bt i else []))++(s.take (p+L)).drop p:=by
 obtain⟨t1,t2,_,_,_⟩:=I7 i s.length s 0 (0,0) (Nat.le_refl _) hi;have haf:=GS i s 0 (0,0);rw[Nat.sub_zero] at t2 haf;rw[Nat.zero_add] at t1;generalize lX i s 0 (0,0)=q at *
 have hne:s.drop q.1≠[]:=fun e=>by
  have:=congrArg List.length e;rw[List.length_drop] at this;have:s.length-q.1=0:=this;omega
 have hl:=eT hne q.2.1;rw[List.length_drop] at hl;refine⟨q.1,bT (s.drop q.1) q.2.1,dB (s.drop q.1) q.2.1,t2,by omega,?_⟩;rw[Hq,haf,Iq,if_neg hne,List.drop_take,Nat.add_sub_cancel_left,List.append_assoc]
theorem vi (s:By):(cE s).2=(sg s (0,0)).2:=(sA s s.length s 0 (0,0) [] false rfl (Nat.zero_le _) (Nat.le_refl _) (.inl rfl) rfl).2.1
theorem Gh (bt s:By) (i:Nat):(cE (oG (pR bt) [] i 0 s (0,0))).2=(Cw i s (0,0)).2:=by
 rw[vi,C8 (pQ bt) i 0 s (0,0) (.inl rfl) (.inl rfl),wH]
theorem Ab:∀(n a:Nat) (l:By) (st:gC),l.length<=n->oQ (fL n l a st).1.length l st=oQ n l st
 | 0,a,l,st,h=>by
  have:l=[]:=List.length_eq_zero_iff.1 (by omega);rw[this,ni,ni]
 |n+1,a,l,st,h=>by
  by_cases hl:l=[]
  · rw[hl,ni,ni]
  · have h1:=eT hl st.1;have ih:=Ab n (a+bT l st.1) (l.drop (bT l st.1)) (cR l st) (by rw[List.length_drop];omega);rw[fL,if_neg hl]
    show oQ ((fL n (l.drop (bT l st.1)) (a+bT l st.1) (cR l st)).1.length+1) l st=_
    rw[oQ,oQ,if_neg hl,if_neg hl,ih]
theorem Gg (bt s z:By) (hz:z=if (cE s).2.1=0 then [10] else []):sg s (0,0)=sg (oG (pR bt) [] (cE s).1.length 0 s (0,0)++z) (0,0):=by
 have h1:oQ (cE s).1.length s (0,0)=sg s (0,0):=Ab _ _ _ _ (Nat.le_refl _);rw[<-yp,C8 (pQ bt) _ 0 s (0,0) (.inl rfl) ?_,h1];rw[h1,<-vi,hz]
 by_cases h:(cE s).2.1=0
 · rw[if_pos h];exact .inr ⟨rfl,h⟩
 · rw[if_neg h];exact .inl rfl
theorem A8 {h:az}(hg:CI h) (s:By){v:Value}{bt:By}(hv:bS .byte h (fun _=>False) v bt) :
 ah Tryz.prog 4 #[.string (bs s),v] h (cT fun r h'=>r= .bool true/\aD h h'):=by
 have hbz:=bu s;obtain⟨ba,bn,bc,rfl,hbt⟩:=hv.open;have hbn:=hbt.len;have hbc:=hbt.le;have hbm:=hbt.cap;unfold maxLen at hbm;subst hbn;refine ah.of func4 rfl rfl ?_;refine aY func4 1 [0,1,4] rfl ?_;refine av rfl ?_;refine av rfl ?_;refine G.bE [(33,.bool (decide (400<s.length\/60<bt.length\/bt.length=0)))] [(0,_),(1,_),(4,_)] ⟨rfl,rfl,rfl,trivial⟩ func4 rfl ?_ ?_
 · refine ct 1 rfl rfl (aj.bI underlying9 rfl) ?_;refine bf 2 rfl ?_;refine aN (d:=24) rfl (fun d1=>?_) (fun d1=>?_)
   · have d1:=of_decide_eq_true d1;refine bf 9 rfl ?_;refine aE rfl ?_;exact⟨rfl,aF rfl (by rw[decide_eq_true (.inl (by omega))]),rfl,rfl,rfl,trivial⟩
   · have d1:=of_decide_eq_false d1;refine ct 1 rfl rfl (aj.aK underlying38 rfl) ?_;refine bf 3 rfl ?_;refine aN (d:=29) rfl (fun d2=>?_) (fun d2=>?_)
     · have d2:=of_decide_eq_true d2;refine bf 4 rfl ?_;refine aE rfl ?_;exact⟨rfl,aF rfl (by rw[decide_eq_true (.inr (.inl (by omega)))]),rfl,rfl,rfl,trivial⟩
     · have d2:=of_decide_eq_false d2;refine ct 1 rfl rfl (aj.aK underlying38 rfl) ?_;refine bf 2 rfl ?_;refine aE rfl ?_;exact⟨rfl,aF rfl (by rw[decide_eq_decide];omega),rfl,rfl,rfl,trivial⟩
 · refine aG rfl rfl (fun hq=>?_) (fun hq=>?_)
   · refine xr func4 rfl ?_;refine xo rfl (aq (vs:=[]) func9 rfl H.Mw rfl (ah.br (pn hg))) ?_;rintro _ h1 ⟨rfl,e1⟩;refine aS 1 [0,1,4,33] rfl ?_;refine G.ret func4 rfl rfl ?_;exact⟨_,rfl,rfl,e1⟩
   · have hq:=of_decide_eq_false hq;obtain⟨hs4,hb6,hb0⟩:s.length<=400/\bt.length<=60/\0<bt.length:=by omega
     obtain⟨lim,hl1,hl2⟩:=hg.lx.sg;refine aB rfl ?_;refine xr func4 rfl ?_;refine xo rfl (aq (vs:=[]) func10 rfl H.KH rfl (ah.br (wR hl2 hl1 hg.lx.tens hg.lx.rules))) ?_;rintro px h1 ⟨kx,e1⟩;have g1:=hg.ay e1;refine aS 1 [0,1,4,5,33] rfl ?_;refine bp func4 2 rfl ?_;refine xo rfl (aq (vs:=[_,_]) func15 rfl H.Jn rfl (ah.br (oy g1.lx kx s (by omega)))) ?_;rintro _ h2 ⟨⟨tv,rfl,hts⟩,e2⟩;refine bf 3 rfl ?_;refine xo rfl (aA.aX H.xJ) ?_;rintro _ h3 ⟨rfl,k3,e3,z3⟩;refine bf 1 rfl ?_;refine RW.b9 rfl rfl rfl (aA.aC H.ey rfl rfl k3 (by first|rfl|(simp;done)|(simp;omega)) (by first|decide|exact of_decide_eq_true rfl|(simp;done)|(simp;omega)) (fS _)) ?_;rintro _ h4 ⟨rfl,k4,x4,z4⟩;have k4:bh h4 h2.size 41 (cz (cE s).2):=k4;have e24:aD h2 h4:=aD.only e3 x4 (Nat.le_refl _);refine xd [0,1,4,5,6,7,33] rfl ?_;refine xr func4 rfl ?_;refine xp rfl (aP (H.ve _ _ _ _ _) rfl) ?_;refine xo rfl (aA.aX H.Ln) ?_;rintro _ h5 ⟨rfl,k5,e5,z5⟩;refine RW.b9 rfl rfl rfl (aA.aC H.LF rfl rfl k5 (by first|rfl|(simp;done)|(simp;omega)) (by first|decide|exact of_decide_eq_true rfl|(simp;done)|(simp;omega)) ((fun v hv=>by simp at hv;rcases hv with rfl|rfl|rfl|rfl|rfl<;>rfl))) ?_;rintro _ h6 ⟨rfl,k6,x6,z6⟩;have k6:bh h6 h4.size 44 (nH.map fun g=>Value.string (bs g)):=k6;have e46:aD h4 h6:=aD.only e5 x6 (Nat.le_refl _);have e16:=e2.trans (e24.trans e46);have e06:=e1.trans e16;obtain⟨ta,tn,tc,rfl,htl⟩:=(hts.ay (e24.trans e46)).open;have htn:=htl.len;have htc:=htl.le;have htm:=htl.cap;unfold maxLen at htm;subst htn;have hall:(cE s).1.length<=s.length:=vj _ _ _ _;have k46:=k4.ay e46;refine xd [0,1,4,5,6,7,8,33] rfl ?_;refine aY func4 2 [0,1,4,5,6,7,8,9,10,33] rfl ?_;refine av rfl ?_;refine aY func4 1 [0,1,4,5,6,7,8,9,10,11,33] rfl ?_;refine G.block rfl rfl ?_;refine bD (σ:=Nat) (fun i=>[(0,.string (bs s)),(1,.slice ba bt.length bc),(5,px),(6,.slice ta (cE s).1.length tc),(7,.pointer (some ⟨h2.size,0,none⟩)),(8,.pointer (some ⟨h4.size,0,none⟩)),(9,.string (bs (oG (pR bt) [] i 0 s (0,0)))),(10,.int .i64 (Cw i s (0,0)).2.1),(11,.int .i64 (i:Nat))]) (fun i h'=>aD h6 h'/\i<=(cE s).1.length) (fun i=>(cE s).1.length-i) (0) rfl ⟨rfl,rfl,rfl,rfl,rfl,rfl,rfl,rfl,rfl,trivial⟩ ⟨Ext.refl _ _,Nat.zero_le _⟩ ?_;rintro i h7 ⟨e7,hi⟩ ih;have e07:=e06.trans e7;have g7:=hg.ay e07;have kx7:=kx.ay (e16.trans e7);have hol:=BT (fun i=>uG _ (pQ bt i)) i 0 s (0,0);have hoz:=bu (oG (pR bt) [] i 0 s (0,0));have hmi:=Gh bt s (i+1);have hol2:=BT (fun i=>uG _ (pQ bt i)) (i+1) 0 s (0,0);refine av rfl ?_;refine bp func4 2 rfl ?_;refine xp rfl (aj.aK underlying39 rfl) ?_;refine aS 1 [0,1,5,6,7,8,9,10,11,46] rfl ?_;refine aO rfl rfl (fun hlt=>?_) (fun hlt=>?_)
     · have hil:i<(cE s).1.length:=by omega
       obtain⟨p,L,K,hk1,hk2,hk3⟩:=Ge bt s hil;obtain⟨tb,to,tk,hta,_,htk,htr⟩:=(htl.mv (Mv.ay e7)).vS hil;obtain rfl:=Option.some.inj (hk1.symm.trans htk);generalize (Cw i s (0,0)).2.1=m at hk3 ⊢;generalize oG (pR bt) [] i 0 s (0,0)=out at hol hoz hk3 ⊢;refine aB rfl ?_;refine av rfl ?_;refine G.block rfl rfl ?_;refine av rfl ?_;refine av rfl ?_;refine G.ew func4 H.mixed rfl (by kernel_rfl) ?_;refine RQ.au rfl rfl rfl rfl (aI rfl) ?_;refine RQ.au rfl rfl rfl rfl (aI rfl) ?_;refine RQ.au rfl rfl rfl rfl (aj.ax underlying39 H.ir rfl rfl i rfl hta (by omega)) ?_;refine RQ.au rfl rfl rfl rfl (af (off:=1) underlying46 rfl rfl H.bW rfl) ?_;refine RQ.au rfl rfl rfl rfl (ai H.cM rfl (htr 1 (.int .i64 (p:Int)) rfl)) ?_;refine RQ.au rfl rfl rfl rfl (zl rfl rfl) ?_;refine RQ.au rfl rfl rfl rfl (aI rfl) ?_;refine RQ.dn (d:=55) (b':=false) rfl (decide_eq_false (by omega)) ?_;refine RQ.au rfl rfl rfl rfl (aI rfl) ?_;refine RQ.au rfl rfl rfl rfl (aI rfl) ?_;refine RQ.au rfl rfl rfl rfl (aj.ax underlying39 H.ir rfl rfl i rfl hta (by omega)) ?_;refine RQ.au rfl rfl rfl rfl (af (off:=2) underlying46 rfl rfl H.bW rfl) ?_;refine RQ.au rfl rfl rfl rfl (ai H.cM rfl (htr 2 (.int .i64 ((p+L:Nat):Int)) rfl)) ?_;refine RQ.au rfl rfl rfl rfl (aI rfl) ?_;refine RQ.au rfl rfl rfl rfl (aj.bI underlying9 rfl) ?_;refine RQ.au rfl rfl rfl rfl (sS rfl rfl) ?_;refine RQ.au rfl rfl rfl rfl (aj.lP rfl rfl) ?_;refine RQ.au rfl rfl rfl rfl (aI rfl) ?_;refine RQ.dn (d:=65) (b':=false) rfl (decide_eq_false (by omega)) ?_;refine RQ.au rfl rfl rfl rfl (aI rfl) ?_;refine RQ.au rfl rfl rfl rfl (aI rfl) ?_;refine RQ.au rfl rfl rfl rfl (aj.ax underlying39 H.ir rfl rfl i rfl hta (by omega)) ?_;refine RQ.au rfl rfl rfl rfl (af (off:=1) underlying46 rfl rfl H.bW rfl) ?_;refine RQ.au rfl rfl rfl rfl (ai H.cM rfl (htr 1 (.int .i64 (p:Int)) rfl)) ?_;refine RQ.au rfl rfl rfl rfl (aI rfl) ?_;refine RQ.au rfl rfl rfl rfl (aI rfl) ?_;refine RQ.au rfl rfl rfl rfl (aj.ax underlying39 H.ir rfl rfl i rfl hta (by omega)) ?_;refine RQ.au rfl rfl rfl rfl (af (off:=2) underlying46 rfl rfl H.bW rfl) ?_;refine RQ.au rfl rfl rfl rfl (ai H.cM rfl (htr 2 (.int .i64 ((p+L:Nat):Int)) rfl)) ?_;refine RQ.au rfl rfl rfl rfl (sS rfl rfl) ?_;refine RQ.au rfl rfl rfl rfl (aj.lP rfl rfl) ?_;refine cB rfl ?_;refine xu [0,1,5,6,7,8,9,10,11,46,77] rfl ?_;refine aG rfl rfl (fun hc=>absurd hc (by simp;omega)) (fun _=>?_);refine aB rfl ?_;refine av rfl ?_;refine av rfl ?_;refine G.bE [(87,.bool (decide (m=0/\K≠2)))] [(0,_),(1,_),(5,_),(6,_),(7,_),(8,_),(9,_),(10,_),(11,_),(46,_),(77,_)] ⟨rfl,rfl,rfl,rfl,rfl,rfl,rfl,rfl,rfl,rfl,rfl,trivial⟩ func4 rfl ?_ ?_
       · refine bf 3 rfl ?_;refine aN (d:=80) rfl (fun m0=>?_) (fun m0=>?_)
         · have m0:=of_decide_eq_true m0;refine ct 2 rfl rfl (aj.ax underlying39 H.ir rfl rfl i rfl hta (by omega)) ?_;refine xp rfl (af (off:=0) underlying46 rfl rfl H.bW rfl) ?_;refine xp rfl (ai H.cM rfl (htr 0 (.int .i64 K) rfl)) ?_;refine bf 2 rfl ?_;refine aE rfl ?_;exact⟨rfl,aF rfl (by simp[m0]),rfl,rfl,rfl,rfl,rfl,rfl,rfl,rfl,rfl,rfl,rfl,trivial⟩
         · have m0:=of_decide_eq_false m0;refine bf 7 rfl ?_;refine aE rfl ?_;exact⟨rfl,aF rfl (by rw[decide_eq_false (fun q=>m0 q.1)]),rfl,rfl,rfl,rfl,rfl,rfl,rfl,rfl,rfl,rfl,rfl,trivial⟩
       · have gap:∀(u:By) (h':az) (ρ':Env),Sub [(0,.string (bs s)),(1,.slice ba bt.length bc),(5,px),(6,.slice ta (cE s).1.length tc),(7,.pointer (some ⟨h2.size,0,none⟩)),(8,.pointer (some ⟨h4.size,0,none⟩)),(9,.string (bs u)),(11,.int .i64 (i:Nat))] ρ'->h7=h'->u=out++(if m=0/\K≠2 then pR bt i else [])->G Tryz.prog 4 Tryz.f4 [.code [1,1,0,0,1,0,0,1,0,1,1,1,1,1,1],.blk 1,.code [1,1,0,0,1,0,1,1,1,1,1,1],.loop [0,0,1,0,1,1,1,1,1,1],.blk 0,.code [1,1,1,1,1,1,1]] ρ' h' (cT fun r h'=>r= .bool true/\aD h h'):=by
          rintro u hh ρ' hsub rfl hu;have huz:=bu u;rw[<-hu] at hk3;rw[hk3] at hmi hol2;have hul:=hol2;rw[List.length_append] at hul;refine G.sub (ρ':=[(0,.string (bs s)),(1,.slice ba bt.length bc),(5,px),(6,.slice ta (cE s).1.length tc),(7,.pointer (some ⟨h2.size,0,none⟩)),(8,.pointer (some ⟨h4.size,0,none⟩)),(9,.string (bs u)),(11,.int .i64 (i:Nat))]) hsub ?_;refine av rfl ?_;refine G.ew func4 H.mixed rfl (by kernel_rfl) ?_;refine RQ.au rfl rfl rfl rfl (aI rfl) ?_;refine RQ.au rfl rfl rfl rfl (aI rfl) ?_;refine RQ.au rfl rfl rfl rfl (aI rfl) ?_;refine RQ.au rfl rfl rfl rfl (aI rfl) ?_;refine RQ.au rfl rfl rfl rfl (aj.ax underlying39 H.ir rfl rfl i rfl hta (by omega)) ?_;refine RQ.au rfl rfl rfl rfl (af (off:=1) underlying46 rfl rfl H.bW rfl) ?_;refine RQ.au rfl rfl rfl rfl (ai H.cM rfl (htr 1 (.int .i64 (p:Int)) rfl)) ?_;refine RQ.au rfl rfl rfl rfl (aI rfl) ?_;refine RQ.au rfl rfl rfl rfl (aI rfl) ?_;refine RQ.au rfl rfl rfl rfl (aj.ax underlying39 H.ir rfl rfl i rfl hta (by omega)) ?_;refine RQ.au rfl rfl rfl rfl (af (off:=2) underlying46 rfl rfl H.bW rfl) ?_;refine RQ.au rfl rfl rfl rfl (ai H.cM rfl (htr 2 (.int .i64 ((p+L:Nat):Int)) rfl)) ?_;refine RQ.au rfl rfl rfl rfl (aj.tA underlying9 rfl rfl p rfl rfl (p+L) rfl (by omega) (by omega)) ?_;refine RQ.au rfl rfl rfl rfl (aj.bR rfl rfl (by rw[sO s p (p+L) (by omega),bu,bu];omega)) ?_;rw[sO s p (p+L) (by omega),cS];refine RQ.au rfl rfl rfl rfl (aj.assign rfl) ?_;refine cB rfl ?_;refine xu [0,1,5,6,7,8,9,11] rfl ?_;refine bp func4 2 rfl ?_;refine xo rfl (aq (vs:=[_,_]) func15 rfl H.Jn rfl (ah.br (oy g7.lx kx7 _ (by omega)))) ?_;rintro _ h8 ⟨⟨w8,rfl,_⟩,e8⟩;refine bf 3 rfl ?_;refine xo rfl (aA.aX H.xJ) ?_;rintro _ h9 ⟨rfl,k9,e9,z9⟩;refine bf 1 rfl ?_;refine RW.b9 rfl rfl rfl (aA.aC H.ey rfl rfl k9 (by first|rfl|(simp;done)|(simp;omega)) (by first|decide|exact of_decide_eq_true rfl|(simp;done)|(simp;omega)) (fS _)) ?_;rintro _ h10 ⟨rfl,k10,x10,z10⟩;have k10:bh h10 h8.size 41 (cz (cE _).2):=k10;rw[hmi] at k10;have e810:aD h8 h10:=aD.only e9 x10 (Nat.le_refl _);refine xd [0,1,5,6,7,8,9,11,13] rfl ?_;refine G.cq func4 rfl ?_;refine xp rfl (af (off:=0) underlying41 rfl rfl H.bW rfl) ?_;refine xp rfl (ai H.cM rfl (k10.cell (i:=0) rfl)) ?_;refine aS 1 [0,1,5,6,7,8,9,10,11,13] rfl ?_;refine G.aQ ?_;refine G.cq func4 rfl ?_;refine ct 1 rfl rfl (aj.bC rfl rfl ⟨by omega,by omega⟩) ?_;refine aS 1 [0,1,5,6,7,8,9,10,11,13] rfl ?_;rw[<-hk3];exact ih (i+1) _ _ ⟨rfl,rfl,rfl,rfl,rfl,rfl,rfl,rfl,rfl,trivial⟩ ⟨e7.trans (e8.trans e810),by omega⟩ (by omega)
         refine aG rfl rfl (fun hc=>?_) (fun hc=>?_)
         · have hc:=of_decide_eq_true hc;have hml:i%bt.length<bt.length:=Nat.mod_lt _ hb0;obtain⟨b,o,x,ha,_,hx,hcell⟩:=hbt.at hml;have hj5:x.toNat%5<5:=Nat.mod_lt _ (by decide)
           have hgx:nH.getD (x.toNat%5) [32]=pR bt i:=by
            show _=nH.getD ((bt.getD (i%bt.length) 0).toNat%5) [32]
            rw[show bt.getD (i%bt.length) 0=x by rw[List.getD_eq_getElem?_getD,hx];rfl]
           have hx8:=x.toNat_lt;have hgv:=k6.cell (HK hj5);rw[hgx] at hgv;have hgz:=bu (pR bt i);have hgl:=uG _ (pQ bt i);refine G.cq func4 rfl ?_;refine ct 4 rfl rfl (aj.aK underlying38 rfl) ?_;refine xp rfl (sQ rfl rfl (by omega)) ?_;refine xp rfl (aj.ax underlying38 H.JI rfl rfl (i%bt.length) (by rw[Int.tmod_eq_emod_of_nonneg (by omega)];omega) ha hml) ?_;refine xp rfl (ai H.K4 rfl (e07.cell (fun k=>k) hcell)) ?_;refine xp rfl (aj.yV underlying5 underlying3 rfl (wrap_i64 ⟨by omega,by omega⟩)) ?_;refine xp rfl (sQ rfl rfl (by decide)) ?_;refine xp rfl (aj.cK underlying44 H.fq rfl rfl (x.toNat%5) (by rw[Int.tmod_eq_emod_of_nonneg (by omega)];omega) hj5) ?_;refine xp rfl (ai H.fM rfl (e7.cell (fun k=>k) (by rw[Nat.zero_add,Nat.mul_one];exact hgv))) ?_;refine xp rfl (aj.bR rfl rfl (by omega)) ?_;rw[cS];refine aS 1 [0,1,5,6,7,8,9,10,11,46,77,87] rfl ?_;exact gap _ _ _ ⟨rfl,rfl,rfl,rfl,rfl,rfl,rfl,rfl,trivial⟩ rfl (by rw[if_pos hc])
         · have hc:=of_decide_eq_false hc;refine aB rfl ?_;exact gap _ _ _ ⟨rfl,rfl,rfl,rfl,rfl,rfl,rfl,rfl,trivial⟩ rfl (by rw[if_neg hc,List.append_nil])
     · obtain rfl:i=(cE s).1.length:=by omega
       refine bw rfl rfl ?_;refine av rfl ?_;refine xr func4 rfl ?_;refine xp rfl (af (off:=0) underlying41 rfl rfl H.bW rfl) ?_;refine xp rfl (ai H.cM rfl ((k46.ay e7).cell (i:=0) rfl)) ?_;refine aS 1 [0,1,5,6,7,8,9,10,11,46,125] rfl ?_
       have fin:∀(u:By) (h':az) (ρ':Env),Sub [(0,.string (bs s)),(5,px),(9,.string (bs u))] ρ'->h7=h'->u=oG (pR bt) [] (cE s).1.length 0 s (0,0)++(if (cE s).2.1=0 then [10] else [])->G Tryz.prog 4 Tryz.f4 [.code [1,1,1,1,1,1,1,1]] ρ' h' (cT fun r h'=>r= .bool true/\aD h h'):=by
        rintro u hh ρ' hsub rfl hu0;have hsame:=Gg bt s _ rfl;have hzl:(if (cE s).2.1=0 then [10] else []:By).length<=1:=by split<;>decide
        rw[<-hu0] at hsame;have hu:u.length<=500000:=by rw[hu0,List.length_append];omega
        obtain⟨K1,a1,c1,hP1⟩:=nX s (cE s).1 (cE s).2.1;obtain⟨K2,a2,c2,hP2⟩:=nX u (cE u).1 (cE u).2.1;obtain⟨rfl,rfl⟩:=DI hsame hP1 hP2;refine G.sub (ρ':=[(0,.string (bs s)),(5,px),(9,.string (bs u))]) hsub ?_;refine bp func4 2 rfl ?_;refine xo rfl (aq (vs:=[_,_]) func11 rfl H.BX rfl (ah.br (fZ g7 kx7 s (by omega) hP1))) ?_;rintro _ h8 ⟨e8,v8,rfl,s8⟩;refine aS 7 [0,5,9,14,16] rfl ?_;refine bp func4 2 rfl ?_;refine xo rfl (aq (vs:=[_,_]) func11 rfl H.BX rfl (ah.br (fZ (g7.ay e8) (kx7.ay e8) u hu hP2))) ?_;rintro _ h9 ⟨e9,v9,rfl,s9⟩;obtain⟨xa,xn,xc,rfl,hs8⟩:=(s8.ay e9).open;obtain⟨ya,yn,yc,rfl,hs9⟩:=s9.open;have hxn:=hs8.len;have hyn:=hs9.len;have hxc:=hs8.le;have hxm:=hs8.cap;unfold maxLen at hxm;subst hxn;subst hyn;have e09:=e07.trans (e8.trans e9);refine aS 7 [0,5,9,14,16,17,19] rfl ?_;refine av rfl ?_;refine av rfl ?_;refine G.bE [(151,.bool false)] [(0,_),(5,_),(9,_),(14,_),(16,_),(17,_),(19,_)] ⟨rfl,rfl,rfl,rfl,rfl,rfl,rfl,trivial⟩ func4 rfl ?_ ?_
        · refine bf 4 rfl ?_;refine RW.dn (d:=145) (b':=false) rfl (decide_eq_false (by exact fun q=>q rfl)) ?_;refine ct 1 rfl rfl (aj.aK underlying23 rfl) ?_;refine ct 1 rfl rfl (aj.aK underlying23 rfl) ?_;refine bf 2 rfl ?_;refine aE rfl ?_;exact⟨rfl,aF rfl (by simp),rfl,rfl,rfl,rfl,rfl,rfl,rfl,trivial⟩
        · refine aG rfl rfl (fun hc=>absurd hc (by simp)) (fun _=>?_);refine aB rfl ?_;refine av rfl ?_;refine aY func4 1 [0,5,9,14,16,17,19,20,151] rfl ?_;refine G.block rfl rfl ?_;refine bD (σ:=Nat) (fun j=>[(14,.slice xa K1.length xc),(17,.slice ya K1.length yc),(20,.int .i64 (j:Nat))]) (fun j h'=>aD h9 h'/\j<=K1.length) (fun j=>K1.length-j) (0) rfl ⟨rfl,rfl,rfl,trivial⟩ ⟨Ext.refl _ _,Nat.zero_le _⟩ ?_;rintro j h10 ⟨e10,hj⟩ ih2;refine av rfl ?_;refine bp func4 2 rfl ?_;refine xp rfl (aj.aK underlying23 rfl) ?_;refine aS 1 [14,17,20,155] rfl ?_;refine aO rfl rfl (fun hl2'=>?_) (fun hl2'=>?_)
          · obtain⟨b,o,x,xk,xt,xa',xn',xc',ha,hx,hr,hR,_,_⟩:=mF (hs8.mv (Mv.ay e10)) (i:=j) (by omega);obtain⟨b2,o2,y,yk,yt,ya',yn',yc',ha2,hy,hr2,hR2,_,_⟩:=mF (hs9.mv (Mv.ay e10)) (i:=j) (by omega);obtain rfl:=Option.some.inj (hx.symm.trans hy);refine aB rfl ?_;refine av rfl ?_;refine G.block rfl rfl ?_;refine av rfl ?_;refine bU (fun b=>Array.size h10<=b) (fun i=>Nat.blt i 10) (sz:=10) (listed:= #[false,false,false,false,false,false,false,false,false,false]) func4 H.mixed rfl rfl rfl ?_;refine cJ 0 1 (by kernel_rfl) rfl ?_;refine cJ 1 3 (by kernel_rfl) rfl ?_;refine bM 2 7 (by kernel_rfl) rfl (fun h' e=>aj.ax underlying23 H.aV rfl rfl j rfl ha (by omega)) ?_;refine bM 3 15 (by kernel_rfl) rfl (fun h' e=>aj.aH H.bQ H.aV rfl (e.BS hr) (by first|rfl|(simp;done)|(simp;omega))) ?_;refine cJ 4 31 (by kernel_rfl) rfl ?_;refine cJ 5 63 (by kernel_rfl) rfl ?_;refine bM 6 127 (by kernel_rfl) rfl (fun h' e=>aj.ax underlying23 H.aV rfl rfl j rfl ha2 (by omega)) ?_;refine bM 7 255 (by kernel_rfl) rfl (fun h' e=>aj.aH H.bQ H.aV rfl (e.BS hr2) (by first|rfl|(simp;done)|(simp;omega))) ?_;refine eP 8 511 (by kernel_rfl) rfl (aq (vs:=[_,_]) func14 rfl H.L8 rfl (ah.br (Cy hR hR2))) ?_;rintro _ h11 ⟨rfl,e11⟩;refine⟨fun _=>e11.of,?_⟩;rw[(wJ x x).2 rfl];refine cJ 9 1023 (by kernel_rfl) rfl ?_;refine bB (by kernel_rfl) ?_;refine xu [14,17,20,155,167] rfl ?_;refine aG rfl rfl (fun hc=>absurd hc (by simp)) (fun _=>?_);refine aB rfl ?_;refine G.aQ ?_;refine G.cq func4 rfl ?_;refine ct 1 rfl rfl (aj.bC rfl rfl ⟨by omega,by omega⟩) ?_;refine aS 1 [14,17,20,155,167] rfl ?_;exact ih2 (j+1) _ _ ⟨rfl,rfl,rfl,trivial⟩ ⟨e10.trans e11,by omega⟩ (by omega)
          · refine bw rfl rfl ?_;refine xr func4 rfl ?_;refine xo rfl (aq (vs:=[]) func9 rfl H.Mw rfl (ah.br (pn (hg.ay (e09.trans e10))))) ?_;rintro _ h11 ⟨rfl,e11⟩;refine aS 1 [4,14,17,20,155] rfl ?_;refine G.ret func4 rfl rfl ?_;exact⟨_,rfl,rfl,(e09.trans e10).trans e11⟩
       refine aO rfl rfl (fun hc=>?_) (fun hc=>?_)
       · refine G.cq func4 rfl ?_;refine ct 1 rfl rfl (aj.bR rfl rfl (by have:(⟨#[10]⟩:ByteArray).size=1:=rfl;omega)) ?_;rw[show (⟨#[10]⟩:ByteArray)=bs [10] from rfl,cS];refine aS 1 [0,1,5,6,7,8,9,10,11,46,125] rfl ?_;exact fin _ _ _ ⟨rfl,rfl,rfl,trivial⟩ rfl (by rw[if_pos hc])
       · refine aB rfl ?_;exact fin _ _ _ ⟨rfl,rfl,rfl,trivial⟩ rfl (by rw[if_neg hc,List.append_nil])
end Go.Proofs.YtmehdcdbeafljaaGreatDoor
